import Derived.Test.YtcdkgenfggdpaaaStoreLog
import Derived.Test.YtcdkgenfggdpaaaG6
import Derived.Test.YtcdkgenfggdpaaaG7
namespace Go.Proofs.Ytcdkgenfggdpaaa.Q
open Go.RowKit Go.Proofs.YtcdkgenfggdpaaaW.PrintWords Go.Proofs.Ytcdkgenfggdpaaa.G
set_option linter.unusedVariables false
set_option linter.unusedSimpArgs false

/-- A good store. -/
def SOk (S : List ByteArray) (P : List Wr) (L : List ByteArray) (n : Int) : Prop :=
  (DOk S P ∧ L.length ≤ 40 ∧ 0 ≤ n ∧ n ≤ (L.length : Int)) ∧ (∀ i, i < L.length → LGood (S.length : Int) (L.getD i ByteArray.empty)) ∧ ∀ i, i < P.length → P.getD i z72 ∈ wrs (L.take n.toNat)
noncomputable def sOk (S : List ByteArray) (P : List Wr) (L : List ByteArray) (n : Int) : Bool := by
  classical
  exact decide (SOk S P L n)
theorem sOk_iff {S : List ByteArray} {P : List Wr} {L : List ByteArray} {n : Int} : sOk S P L n = true ↔ SOk S P L n := by
  classical
  unfold sOk
  exact decide_eq_true_iff
theorem sOk_yes {S : List ByteArray} {P : List Wr} {L : List ByteArray} {n : Int} (h : SOk S P L n) : sOk S P L n = true := sOk_iff.2 h
theorem sOk_not {S : List ByteArray} {P : List Wr} {L : List ByteArray} {n : Int} (h : ¬ SOk S P L n) : sOk S P L n = false := by
  classical
  unfold sOk
  exact decide_eq_false h
theorem wr_eq (w : Wr) (a : Int) (s : ByteArray) : (w.f0 == a && (w.f1.toList == s.toList)) = true ↔ w = ⟨a, s⟩ := by
  rw [Bool.and_eq_true, beq_iff_eq, beq_iff_eq]
  constructor
  · intro h
    rw [← h.1, ← ba_inj h.2]
  · intro h
    rw [h]
    exact ⟨rfl, rfl⟩
theorem wr_eq' (w : Wr) (a : Int) (s : ByteArray) : (a == w.f0 && (s.toList == w.f1.toList)) = true ↔ w = ⟨a, s⟩ := by
  rw [Bool.and_eq_true, beq_iff_eq, beq_iff_eq]
  constructor
  · intro h
    rw [h.1, ba_inj h.2]
  · intro h
    rw [h]
    exact ⟨rfl, rfl⟩
theorem mem_getD {α : Type} {l : List α} {x z : α} : x ∈ l ↔ ∃ j, j < l.length ∧ l.getD j z = x := by
  constructor
  · intro h
    obtain ⟨j, hj, e⟩ := List.mem_iff_getElem.1 h
    exact ⟨j, hj, by rw [getD_eq l j z hj]; exact e⟩
  · rintro ⟨j, hj, e⟩
    rw [← e]
    exact getD_mem l j z hj
theorem specFound (Y P : List Wr) (hY : Y.length ≤ 1000000000) (i : Nat) (w : Wr) (r : Bool) (next : w ∈ Y → Ev (fun k => spec_GoodStore.l0 k Y P (P.length : Int) (wrap64 ((i : Int) + 1))) r) (no : ¬ w ∈ Y → r = false) :
    Ev (fun k => spec_GoodStore.l1 k Y false P (P.length : Int) (i : Int) Y (Y.length : Int) 0 w.f0 w.f1) r := by
  have loop : ∀ d j (b : Bool), Y.length - j = d → j ≤ Y.length → (b = true ↔ ∃ j', j' < j ∧ Y.getD j' z72 = w) → Ev (fun k => spec_GoodStore.l1 k Y b P (P.length : Int) (i : Int) Y (Y.length : Int) (j : Int) w.f0 w.f1) r := by
    intro d
    induction d with
    | zero =>
      intro j b hd hj hb
      have : j = Y.length := by omega
      subst this
      refine Ev.step (fun k => by rw [spec_GoodStore.l1]) ?_
      refine Ev.neg (by omega) ?_
      by_cases e : b = true
      · exact Ev.pos e (next (mem_getD.2 (hb.1 e)))
      · refine Ev.neg e (Ev.now' (no (fun h => e (hb.2 (mem_getD.1 h)))).symm)
    | succ d ih =>
      intro j b hd hj hb
      have e1 : Y.length - (j + 1) = d := by clear hb; omega
      have e2 : j + 1 ≤ Y.length := by clear hb; omega
      refine Ev.step (fun k => by rw [spec_GoodStore.l1]) ?_
      rw [rdiWrite, w64 (x := (j : Int) + 1) (by omega) (by omega)]
      refine Ev.pos (by omega) (Ev.pos (by omega) (Ev.pos (by omega) ?_))
      by_cases e : b = true
      · refine Ev.pos e (ih (j + 1) true e1 e2 ?_)
        refine ⟨fun _ => ?_, fun _ => rfl⟩
        obtain ⟨j', h1, h2⟩ := hb.1 e
        exact ⟨j', by omega, h2⟩
      · refine Ev.neg e (ih (j + 1) _ e1 e2 ?_)
        rw [wr_eq]
        constructor
        · intro h
          exact ⟨j, by omega, h⟩
        · rintro ⟨j', h1, h2⟩
          by_cases e2 : j' = j
          · subst e2; exact h2
          · exact absurd (hb.2 ⟨j', by omega, h2⟩) e
  exact loop _ 0 false rfl (by omega) ⟨fun h => (by cases h), fun ⟨j', h, _⟩ => (by omega)⟩
theorem specStore_ev (S : List ByteArray) (P : List Wr) (L : List ByteArray) (n : Int) (hS : S.length ≤ 1048576) (hP : P.length ≤ 1048576) (hL : L.length ≤ 1048576) (hs : Short L) : Ev (fun k => spec_GoodStore.f k S P L n) (sOk S P L n) := by
  have hd := specDevice_ev S P (by omega) (by omega)
  have no : ¬ (DOk S P ∧ L.length ≤ 40 ∧ 0 ≤ n ∧ n ≤ (L.length : Int)) → Ev (fun k => spec_GoodStore.j0 k true S P L n) (sOk S P L n) := fun h => by
    rw [sOk_not (fun e => h e.1)]
    refine Ev.step (fun k => by rw [spec_GoodStore.j0]) ?_
    exact Ev.pos rfl (Ev.now _)
  unfold spec_GoodStore.f
  refine Ev.bind' _ hd ?_
  by_cases h1 : DOk S P
  · refine Ev.pos (dOk_iff.2 h1) ?_
    by_cases h2 : (L.length : Int) > 40
    · exact Ev.pos h2 (no (fun h => by omega))
    · refine Ev.neg h2 (Ev.bindc _ (specIn_eq _ _ _) ?_)
      by_cases h3 : 0 ≤ n ∧ n ≤ (L.length : Int)
      · rw [dec_true h3]
        refine Ev.step (fun k => by rw [spec_GoodStore.j0]) ?_
        refine Ev.neg (by simp) ?_
        obtain ⟨g1, g2⟩ := l11Writes_ev L hL hs (S.length : Int)
        by_cases h4 : ∀ i, i < L.length → LGood (S.length : Int) (L.getD i ByteArray.empty)
        · refine Ev.bind' _ (g1 h4) (Ev.pos rfl (Ev.pos h3.1 (Ev.pos h3.2 ?_)))
          have hlt : (L.take n.toNat).length ≤ 40 := by rw [List.length_take]; omega
          obtain ⟨g3, _⟩ := l11Writes_ev (L.take n.toNat) (by omega) (short_take hs _) (S.length : Int)
          have hw := wrs_len (L.take n.toNat)
          refine Ev.bind' _ (g3 ?_) ?_
          · intro i hi
            rw [List.length_take] at hi
            have e : (L.take n.toNat).getD i ByteArray.empty = L.getD i ByteArray.empty := by simp [List.getD_eq_getElem?_getD, show i < n.toNat by omega]
            rw [e]
            exact h4 i (by omega)
          · refine scan (L := fun k i => spec_GoodStore.l0 k (wrs (L.take n.toNat)) P (P.length : Int) (i : Int)) (n := P.length) (p := fun i => P.getD i z72 ∈ wrs (L.take n.toNat)) ?_ ?_ ?_
            · intro h5
              refine Ev.step (fun k => by rw [spec_GoodStore.l0]) ?_
              exact Ev.neg (by omega) (Ev.now' (sOk_yes ⟨⟨h1, by omega, h3⟩, h4, h5⟩).symm)
            · intro i hi _ hp next
              refine Ev.step (fun k => by rw [spec_GoodStore.l0]) ?_
              rw [rdiWrite]
              refine Ev.pos (by omega) (Ev.pos (by omega) (Ev.pos (by omega) ?_))
              refine specFound _ P (by omega) i _ _ (fun _ => ?_) (fun h => absurd hp h)
              rw [w64 (x := (i : Int) + 1) (by omega) (by omega)]
              exact next
            · intro i hi _ hp
              refine Ev.step (fun k => by rw [spec_GoodStore.l0]) ?_
              rw [rdiWrite]
              refine Ev.pos (by omega) (Ev.pos (by omega) (Ev.pos (by omega) ?_))
              exact specFound _ P (by omega) i _ _ (fun h => absurd h hp) (fun _ => sOk_not (fun e => hp (e.2.2 i hi)))
        · rw [sOk_not (fun e => h4 e.2.1)]
          exact Ev.bind' _ (g2 h4) (Ev.neg (by simp) (Ev.now _))
      · rw [dec_false h3]
        exact no (fun h => h3 h.2.2)
  · exact Ev.neg (fun e => h1 (dOk_iff.1 e)) (no (fun h => h1 h.1))
theorem implContains_ev (Y : List Wr) (hY : Y.length ≤ 1000000000) (w : Wr) : Ev (fun k => impl_Write_81.f k Y w.f0 w.f1) (decide (w ∈ Y)) := by
  obtain ⟨t, c1, c2⟩ : ∃ t : Int, Ev (fun k => impl_Write_111.f k Y w.f0 w.f1) t ∧ (t ≥ 0 ↔ ∃ i, i < Y.length ∧ Y.getD i z72 = w) := by
    unfold impl_Write_111.f
    refine scanIx (L := fun k i => impl_Write_111.l0 k Y (Y.length : Int) (i : Int) w.f0 w.f1) ?_ ?_ ?_
    · refine Ev.step (fun k => by rw [impl_Write_111.l0]) ?_
      exact Ev.neg (by omega) (Ev.now _)
    · intro i hi hq t next
      refine Ev.step (fun k => by rw [impl_Write_111.l0]) ?_
      rw [rdiWrite, w64 (x := (i : Int) + 1) (by omega) (by omega)]
      refine Ev.pos (by omega) (Ev.pos (by omega) (Ev.pos (by omega) (Ev.neg (fun e => hq ((wr_eq' _ _ _).1 e)) next)))
    · intro i hi hq
      refine Ev.step (fun k => by rw [impl_Write_111.l0]) ?_
      rw [rdiWrite]
      refine Ev.pos (by omega) (Ev.pos (by omega) (Ev.pos (by omega) (Ev.pos ((wr_eq' _ _ _).2 hq) (Ev.now _))))
  unfold impl_Write_81.f
  refine Ev.bind' t c1 (Ev.now' ?_)
  exact dec_congr (by rw [c2, mem_getD (z := z72)])
theorem implStore_ev (S : List ByteArray) (P : List Wr) (L : List ByteArray) (n : Int) (hS : S.length ≤ 1048576) (hP : P.length ≤ 1048576) (hL : L.length ≤ 1048576) (hs : Short L) : Ev (fun k => impl_GoodStore.f k S P L n) (sOk S P L n) := by
  have hd := implDevice_ev S P (by omega) (by omega)
  have no : ¬ (DOk S P ∧ L.length ≤ 40 ∧ 0 ≤ n ∧ n ≤ (L.length : Int)) → Ev (fun k => impl_GoodStore.j0 k true S P L n) (sOk S P L n) := fun h => by
    rw [sOk_not (fun e => h e.1)]
    refine Ev.step (fun k => by rw [impl_GoodStore.j0]) ?_
    exact Ev.pos rfl (Ev.now _)
  unfold impl_GoodStore.f
  refine Ev.bind' _ hd ?_
  by_cases h1 : DOk S P
  · refine Ev.pos (dOk_iff.2 h1) ?_
    by_cases h2 : (L.length : Int) > 40
    · exact Ev.pos h2 (no (fun h => by omega))
    · refine Ev.neg h2 (Ev.bindc _ (within_eq _ _ _) ?_)
      by_cases h3 : 0 ≤ n ∧ n ≤ (L.length : Int)
      · rw [dec_true h3]
        refine Ev.step (fun k => by rw [impl_GoodStore.j0]) ?_
        refine Ev.neg (by simp) ?_
        refine scan (L := fun k i => impl_GoodStore.l0 k L (L.length : Int) (i : Int) S P L n) (n := L.length) (p := fun i => LGood (S.length : Int) (L.getD i ByteArray.empty)) ?_ ?_ ?_
        · intro h4
          refine Ev.step (fun k => by rw [impl_GoodStore.l0]) ?_
          have hw := wrs_len (L.take n.toNat)
          have hlt : (L.take n.toNat).length ≤ 40 := by rw [List.length_take]; omega
          refine Ev.neg (by omega) (Ev.pos h3.1 (Ev.pos h3.2 (Ev.bind' _ (writesOf_ev (L.take n.toNat) (by omega) (short_take hs _)) ?_)))
          obtain ⟨t, c1, c2⟩ : ∃ t : Int, Ev (fun k => slices_IndexFunc_impl_Write_at_impl_GoodStore_1.f k P (wrs (L.take n.toNat))) t ∧ (t ≥ 0 ↔ ∃ i, i < P.length ∧ ¬ P.getD i z72 ∈ wrs (L.take n.toNat)) := by
            unfold slices_IndexFunc_impl_Write_at_impl_GoodStore_1.f
            refine scanIx (L := fun k i => slices_IndexFunc_impl_Write_at_impl_GoodStore_1.l0 k P (P.length : Int) (i : Int) (wrs (L.take n.toNat))) ?_ ?_ ?_
            · refine Ev.step (fun k => by rw [slices_IndexFunc_impl_Write_at_impl_GoodStore_1.l0]) ?_
              exact Ev.neg (by omega) (Ev.now _)
            · intro i hi hq t next
              refine Ev.step (fun k => by rw [slices_IndexFunc_impl_Write_at_impl_GoodStore_1.l0]) ?_
              rw [rdiWrite, w64 (x := (i : Int) + 1) (by omega) (by omega)]
              refine Ev.pos (by omega) (Ev.pos (by omega) (Ev.pos (by omega) (Ev.bind' (!decide (P.getD i z72 ∈ wrs (L.take n.toNat))) ?_ (Ev.neg ?_ next))))
              · unfold impl_GoodStore_1.f
                exact Ev.bind' _ (implContains_ev _ (by omega) _) (Ev.now _)
              · simpa using hq
            · intro i hi hq
              refine Ev.step (fun k => by rw [slices_IndexFunc_impl_Write_at_impl_GoodStore_1.l0]) ?_
              rw [rdiWrite]
              refine Ev.pos (by omega) (Ev.pos (by omega) (Ev.pos (by omega) (Ev.bind' (!decide (P.getD i z72 ∈ wrs (L.take n.toNat))) ?_ (Ev.pos ?_ (Ev.now _)))))
              · unfold impl_GoodStore_1.f
                exact Ev.bind' _ (implContains_ev _ (by omega) _) (Ev.now _)
              · simpa using hq
          refine Ev.bind' (decide (t ≥ 0)) ?_ (Ev.now' ?_)
          · unfold slices_ContainsFunc_impl_Write_at_impl_GoodStore_1.f
            exact Ev.bind' t c1 (Ev.now _)
          · by_cases h5 : t ≥ 0
            · rw [dec_true h5, sOk_not]
              · rfl
              · intro e
                obtain ⟨i, hi, h6⟩ := c2.1 h5
                exact h6 (e.2.2 i hi)
            · rw [dec_false h5, sOk_yes]
              · rfl
              · refine ⟨⟨h1, by omega, h3⟩, h4, fun i hi => ?_⟩
                by_cases h6 : P.getD i z72 ∈ wrs (L.take n.toNat)
                · exact h6
                · exact absurd (c2.2 ⟨i, hi, h6⟩) h5
        · intro i hi _ hp next
          have h2 := readOf_len (L.getD i ByteArray.empty)
          refine Ev.step (fun k => by rw [impl_GoodStore.l0]) ?_
          rw [rdw_of, w64 (x := (i : Int) + 1) (by omega) (by omega)]
          exact Ev.pos (by omega) (Ev.pos (by omega) (Ev.pos (by omega) (Ev.bind' _ (implRead_ev _ (hs i hi)) (Ev.pos hp.1 (Ev.bind' _ (isTxn_ev _ (by omega) _) (Ev.pos (tOk_iff.2 hp.2) next))))))
        · intro i hi _ hp
          have h2 := readOf_len (L.getD i ByteArray.empty)
          refine Ev.step (fun k => by rw [impl_GoodStore.l0]) ?_
          rw [rdw_of, sOk_not (fun e => hp (e.2.1 i hi))]
          refine Ev.pos (by omega) (Ev.pos (by omega) (Ev.pos (by omega) (Ev.bind' _ (implRead_ev _ (hs i hi)) ?_)))
          by_cases h5 : (readOf (L.getD i ByteArray.empty)).2 = true
          · exact Ev.pos h5 (Ev.bind' _ (isTxn_ev _ (by omega) _) (Ev.neg (fun e => hp ⟨h5, tOk_iff.1 e⟩) (Ev.now _)))
          · exact Ev.neg h5 (Ev.now _)
      · rw [dec_false h3]
        exact no (fun h => h3 h.2.2)
  · exact Ev.neg (fun e => h1 (dOk_iff.1 e)) (no (fun h => h1 h.1))
end Go.Proofs.Ytcdkgenfggdpaaa.Q
