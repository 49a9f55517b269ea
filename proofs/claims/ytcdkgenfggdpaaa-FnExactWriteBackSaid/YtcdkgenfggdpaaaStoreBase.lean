import Derived.Test.YtcdkgenfggdpaaaScan
import Derived.Test.YtcdkgenfggdpaaaTxnRead
import Derived.Test.YtcdkgenfggdpaaaG6
namespace Go.Proofs.Ytcdkgenfggdpaaa.Q
open Go.RowKit Go.Proofs.YtcdkgenfggdpaaaW.PrintWords Go.Proofs.Ytcdkgenfggdpaaa.G
set_option linter.unusedVariables false
set_option linter.unusedSimpArgs false

/-- A good device. -/
def DOk (S : List ByteArray) (P : List Wr) : Prop := ((∀ i, i < S.length → (S.getD i ByteArray.empty).size = 8) ∧ (∀ i, i < P.length → WOk (S.length : Int) (P.getD i z72))) ∧ (1 ≤ S.length ∧ S.length ≤ 32) ∧ P.length ≤ 60
noncomputable def dOk (S : List ByteArray) (P : List Wr) : Bool := by
  classical
  exact decide (DOk S P)
theorem dOk_iff {S : List ByteArray} {P : List Wr} : dOk S P = true ↔ DOk S P := by
  classical
  unfold dOk
  exact decide_eq_true_iff
theorem dOk_not {S : List ByteArray} {P : List Wr} (h : ¬ DOk S P) : dOk S P = false := by
  classical
  unfold dOk
  exact decide_eq_false h
theorem specDevice_ev (S : List ByteArray) (P : List Wr) (hS : S.length ≤ 1000000000) (hP : P.length ≤ 1000000000) : Ev (fun k => spec_GoodDevice.f k S P) (dOk S P) := by
  unfold spec_GoodDevice.f
  refine scan (L := fun k i => spec_GoodDevice.l0 k S (S.length : Int) (i : Int) S P) (n := S.length) (p := fun i => (S.getD i ByteArray.empty).size = 8) ?_ ?_ ?_
  · intro h1
    refine Ev.step (fun k => by rw [spec_GoodDevice.l0]) ?_
    refine Ev.neg (by omega) ?_
    refine scan (L := fun k i => spec_GoodDevice.l1 k P (P.length : Int) (i : Int) S P) (n := P.length) (p := fun i => WOk (S.length : Int) (P.getD i z72)) ?_ ?_ ?_
    · intro h2
      refine Ev.step (fun k => by rw [spec_GoodDevice.l1]) ?_
      refine Ev.neg (by omega) (Ev.bindc _ (specIn_eq _ _ _) ?_)
      by_cases h3 : (1 : Int) ≤ (S.length : Int) ∧ (S.length : Int) ≤ 32
      · refine Ev.pos (by simpa using h3) (Ev.now' ?_)
        by_cases h4 : P.length ≤ 60
        · rw [dOk_iff.2 ⟨⟨h1, h2⟩, by omega, h4⟩]
          exact decide_eq_true (by omega)
        · rw [dOk_not (fun h => h4 h.2.2)]
          exact decide_eq_false (by omega)
      · refine Ev.neg (by simpa using h3) (Ev.now' ?_)
        rw [dOk_not]
        intro h
        have := h.2.1
        omega
    · intro i hi _ hp next
      refine Ev.step (fun k => by rw [spec_GoodDevice.l1]) ?_
      rw [rdiWrite, w64 (x := (i : Int) + 1) (by omega) (by omega)]
      exact Ev.pos (by omega) (Ev.pos (by omega) (Ev.pos (by omega) (Ev.bindc _ (specWrite_eq _ _) (Ev.pos (by simpa using hp) next))))
    · intro i hi _ hp
      refine Ev.step (fun k => by rw [spec_GoodDevice.l1]) ?_
      rw [rdiWrite, dOk_not (fun h => hp (h.1.2 i hi))]
      exact Ev.pos (by omega) (Ev.pos (by omega) (Ev.pos (by omega) (Ev.bindc _ (specWrite_eq _ _) (Ev.neg (by simpa using hp) (Ev.now _)))))
  · intro i hi _ hp next
    refine Ev.step (fun k => by rw [spec_GoodDevice.l0]) ?_
    rw [rdw_of, w64 (x := (i : Int) + 1) (by omega) (by omega)]
    exact Ev.pos (by omega) (Ev.pos (by omega) (Ev.pos (by omega) (Ev.pos (by omega) next)))
  · intro i hi _ hp
    refine Ev.step (fun k => by rw [spec_GoodDevice.l0]) ?_
    rw [rdw_of, dOk_not (fun h => hp (h.1.1 i hi))]
    exact Ev.pos (by omega) (Ev.pos (by omega) (Ev.pos (by omega) (Ev.neg (by omega) (Ev.now _))))
theorem implDevice_ev (S : List ByteArray) (P : List Wr) (hS : S.length ≤ 1000000000) (hP : P.length ≤ 1000000000) : Ev (fun k => impl_GoodDevice.f k S P) (dOk S P) := by
  obtain ⟨t1, c1, c2⟩ : ∃ t : Int, Ev (fun k => slices_IndexFunc_string_string_at_impl_GoodDevice_1.f k S) t ∧ (t ≥ 0 ↔ ∃ i, i < S.length ∧ (S.getD i ByteArray.empty).size ≠ 8) := by
    unfold slices_IndexFunc_string_string_at_impl_GoodDevice_1.f
    refine scanIx (L := fun k i => slices_IndexFunc_string_string_at_impl_GoodDevice_1.l0 k S (S.length : Int) (i : Int)) ?_ ?_ ?_
    · refine Ev.step (fun k => by rw [slices_IndexFunc_string_string_at_impl_GoodDevice_1.l0]) ?_
      exact Ev.neg (by omega) (Ev.now _)
    · intro i hi hq t next
      refine Ev.step (fun k => by rw [slices_IndexFunc_string_string_at_impl_GoodDevice_1.l0]) ?_
      rw [rdw_of, w64 (x := (i : Int) + 1) (by omega) (by omega)]
      refine Ev.pos (by omega) (Ev.pos (by omega) (Ev.pos (by omega) (Ev.bindc _ rfl (Ev.neg ?_ next))))
      rw [bne_iff_ne]
      omega
    · intro i hi hq
      refine Ev.step (fun k => by rw [slices_IndexFunc_string_string_at_impl_GoodDevice_1.l0]) ?_
      rw [rdw_of]
      refine Ev.pos (by omega) (Ev.pos (by omega) (Ev.pos (by omega) (Ev.bindc _ rfl (Ev.pos ?_ (Ev.now _)))))
      rw [bne_iff_ne]
      omega
  have f2 : ∀ w : Wr, impl_GoodDevice_2.f w.f0 w.f1 S P = some (!decide (WOk (S.length : Int) w)) := by
    intro w
    unfold impl_GoodDevice_2.f
    rw [within_eq, Option.bind_some]
    by_cases h : 0 ≤ w.f0 ∧ w.f0 ≤ wrap64 ((S.length : Int) - 1)
    · rw [if_pos (by simpa using h)]
      refine congrArg some ?_
      rw [Bool.eq_iff_iff, bne_iff_ne, Bool.not_eq_true', decide_eq_false_iff_not]
      constructor
      · intro e h2; have := h2.2; omega
      · intro e e2; exact e ⟨h, by omega⟩
    · rw [if_neg (by simpa using h), decide_eq_false fun e => h e.1]
      rfl
  obtain ⟨t2, c3, c4⟩ : ∃ t : Int, Ev (fun k => slices_IndexFunc_impl_Write_at_impl_GoodDevice_2.f k P S P) t ∧ (t ≥ 0 ↔ ∃ i, i < P.length ∧ ¬ WOk (S.length : Int) (P.getD i z72)) := by
    unfold slices_IndexFunc_impl_Write_at_impl_GoodDevice_2.f
    refine scanIx (L := fun k i => slices_IndexFunc_impl_Write_at_impl_GoodDevice_2.l0 k P (P.length : Int) (i : Int) S P) ?_ ?_ ?_
    · refine Ev.step (fun k => by rw [slices_IndexFunc_impl_Write_at_impl_GoodDevice_2.l0]) ?_
      exact Ev.neg (by omega) (Ev.now _)
    · intro i hi hq t next
      refine Ev.step (fun k => by rw [slices_IndexFunc_impl_Write_at_impl_GoodDevice_2.l0]) ?_
      rw [rdiWrite, w64 (x := (i : Int) + 1) (by omega) (by omega)]
      refine Ev.pos (by omega) (Ev.pos (by omega) (Ev.pos (by omega) (Ev.bindc _ (f2 _) (Ev.neg ?_ next))))
      simpa using hq
    · intro i hi hq
      refine Ev.step (fun k => by rw [slices_IndexFunc_impl_Write_at_impl_GoodDevice_2.l0]) ?_
      rw [rdiWrite]
      refine Ev.pos (by omega) (Ev.pos (by omega) (Ev.pos (by omega) (Ev.bindc _ (f2 _) (Ev.pos ?_ (Ev.now _)))))
      simpa using hq
  have no : ¬ DOk S P → Ev (fun k => impl_GoodDevice.j0 k true S P) (dOk S P) := by
    intro h
    rw [dOk_not h]
    refine Ev.step (fun k => by rw [impl_GoodDevice.j0]) ?_
    exact Ev.pos rfl (Ev.now _)
  unfold impl_GoodDevice.f
  refine Ev.bindc _ (within_eq _ _ _) ?_
  by_cases h1 : (1 : Int) ≤ (S.length : Int) ∧ (S.length : Int) ≤ 32
  · refine Ev.pos (by simpa using h1) ?_
    by_cases h2 : (P.length : Int) > 60
    · rw [decide_eq_true h2]
      exact no (fun h => by have := h.2.2; omega)
    · rw [decide_eq_false h2]
      refine Ev.step (fun k => by rw [impl_GoodDevice.j0]) ?_
      refine Ev.neg (by decide) (Ev.bind' (decide (t1 ≥ 0)) ?_ ?_)
      · unfold slices_ContainsFunc_string_string_at_impl_GoodDevice_1.f
        exact Ev.bind' t1 c1 (Ev.now _)
      · by_cases h3 : t1 ≥ 0
        · refine Ev.pos (by simpa using h3) (Ev.now' ?_)
          rw [dOk_not]
          intro h
          obtain ⟨i, hi, e⟩ := c2.1 h3
          exact e (h.1.1 i hi)
        · refine Ev.neg (by simpa using h3) (Ev.bind' (decide (t2 ≥ 0)) ?_ (Ev.now' ?_))
          · unfold slices_ContainsFunc_impl_Write_at_impl_GoodDevice_2.f
            exact Ev.bind' t2 c3 (Ev.now _)
          · by_cases h4 : t2 ≥ 0
            · rw [decide_eq_true h4, dOk_not]
              · rfl
              · intro h
                obtain ⟨i, hi, e⟩ := c4.1 h4
                exact e (h.1.2 i hi)
            · rw [decide_eq_false h4, dOk_iff.2]
              · rfl
              · refine ⟨⟨fun i hi => ?_, fun i hi => ?_⟩, by omega, by omega⟩
                · by_cases e : (S.getD i ByteArray.empty).size = 8
                  · exact e
                  · exact absurd (c2.2 ⟨i, hi, e⟩) h3
                · by_cases e : WOk (S.length : Int) (P.getD i z72)
                  · exact e
                  · exact absurd (c4.2 ⟨i, hi, e⟩) h4
  · refine Ev.neg (by simpa using h1) (no fun h => h1 ?_)
    have := h.2.1
    omega
end Go.Proofs.Ytcdkgenfggdpaaa.Q
