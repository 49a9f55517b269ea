/- GoodRing of the program as a plain scan, and what a record more, or a tail pushed, does to it. -/
import Derived.Test.YthlifcbkpafofaaDoorRingSum
import Derived.Test.YthlifcbkpafofaaDoorG4
namespace Go.Proofs.YthlifcbkpafofaaDoor.Q
open Go.RowKit Go.Proofs.YthlifcbkpafofaaDoorW.PrintWords Go.Proofs.YthlifcbkpafofaaDoor.G
set_option linter.unusedVariables false
set_option linter.unusedSimpArgs false
abbrev Sl := S26
noncomputable def zsum : Int := slotSum 0 0 ⟨#[]⟩
noncomputable def isZero (x : Sl) : Bool := (x.f0 == 0 && (x.f1 == 0 && (x.f2.toList == (⟨#[]⟩ : ByteArray).toList && x.f3 == zsum)))
noncomputable def intact (x : Sl) : Bool := decide (SlotOk x.f0 x.f1 x.f2) && x.f3 == slotSum x.f0 x.f1 x.f2
theorem intact_ev (x : Sl) : Ev (fun k => impl_isIntact.f k x.f0 x.f1 x.f2 x.f3) (intact x) := by
  unfold impl_isIntact.f intact
  by_cases h : SlotOk x.f0 x.f1 x.f2
  · rw [decide_eq_true h, Bool.true_and]
    exact Ev.bindc _ (implSlot_eq _ _ _ _) (Ev.pos (by simpa using h) (Ev.bind' _ (slotSum_evs x.f0 x.f1 x.f2 x.f3).2 (Ev.now _)))
  · rw [decide_eq_false h, Bool.false_and]
    exact Ev.bindc _ (implSlot_eq _ _ _ _) (Ev.neg (by simpa using h) (Ev.now _))
theorem zslot_ev : Ev (fun k => impl_zeroSlot.f k) (0, 0, (⟨#[]⟩ : ByteArray), zsum) := by
  unfold impl_zeroSlot.f
  exact Ev.bind' _ (slotSum_evs 0 0 ⟨#[]⟩ 0).2 (Ev.now _)
/-- The slot of a record. -/
def at_ (l : List Sl) (j : Int) : Sl := l.getD j.toNat z26
theorem at_eq (l : List Sl) (j : Int) (h : 0 ≤ j) : rd_T26 l j = at_ l j := by simp [rd_T26, at_]
/-- One record's slot is right: the last tail is replaced. -/
def okAt (x : Sl) (n t k last : Int) : Prop := x.f0 = Int.tdiv k n + 1 ∧ ¬ x.f1 > k ∧ ¬ x.f1 > t ∧ ¬ x.f1 < last
instance (x : Sl) (n t k last : Int) : Decidable (okAt x n t k last) := by unfold okAt; infer_instance
noncomputable def gscan (l : List Sl) (n t : Int) : Nat → Int → Int → Bool
  | 0, _, _ => true
  | m + 1, last, k =>
    if k < 0 then (if isZero (at_ l (k + n)) = true then gscan l n t m last (k + 1) else false)
    else if k < t ∧ isZero (at_ l (Int.tmod k n)) = true then gscan l n t m last (k + 1)
    else if intact (at_ l (Int.tmod k n)) = true ∧ okAt (at_ l (Int.tmod k n)) n t k last then gscan l n t m (at_ l (Int.tmod k n)).f1 (k + 1) else false
theorem zero_cmp (x : Sl) : (!(x.f0 == 0) || (!(x.f1 == 0) || (!((x.f2).toList == (⟨#[]⟩ : ByteArray).toList) || (!(x.f3 == zsum))))) = !(isZero x) := by
  unfold isZero
  simp only [Bool.not_and]
theorem scan_ev (l : List Sl) (h c t : Int) (n : Int) (hn : (l.length : Int) = n) (h1 : 2 ≤ n) (h2 : n ≤ 24) (h3 : 0 ≤ h) (h4 : h ≤ 10000000) : ∀ (m : Nat) (last k : Int), (h - k).toNat = m → h - n ≤ k → k ≤ h →
    Ev (fun q => impl_GoodRing.l0 q n last k l h c t) (gscan l n t m last k) := by
  intro m
  induction m with
  | zero =>
    intro last k hm hk1 hk2
    refine Ev.step (fun q => by rw [impl_GoodRing.l0]) (Ev.neg ?_ (Ev.now' (show true = gscan l n t 0 last k from rfl)))
    omega
  | succ m ih =>
    intro last k hm hk1 hk2
    have hw : wrap64 (k + 1) = k + 1 := w64 (by omega) (by omega)
    have nx : ∀ last', Ev (fun q => impl_GoodRing.l0 q n last' (wrap64 (k + 1)) l h c t) (gscan l n t m last' (k + 1)) := fun last' => by
      rw [hw]
      exact ih last' (k + 1) (by omega) (by omega) (by omega)
    rw [gscan]
    refine Ev.step (fun q => by rw [impl_GoodRing.l0]) (Ev.pos (by omega) ?_)
    by_cases c1 : k < 0
    · rw [if_pos c1]
      refine Ev.pos c1 ?_
      have hkn : wrap64 (k + n) = k + n := w64 (by omega) (by omega)
      rw [hkn]
      refine Ev.pos (by omega) (Ev.pos (by omega) (Ev.bind' _ zslot_ev ?_))
      rw [at_eq l _ (by omega)]
      have e := zero_cmp (at_ l (k + n))
      by_cases z : isZero (at_ l (k + n)) = true
      · rw [if_pos z]
        refine Ev.neg ?_ (nx last)
        show ¬ ((!((at_ l (k + n)).f0 == 0) || (!((at_ l (k + n)).f1 == 0) || (!(((at_ l (k + n)).f2).toList == (⟨#[]⟩ : ByteArray).toList) || (!((at_ l (k + n)).f3 == zsum))))) = true)
        rw [e, z]
        decide
      · rw [if_neg z]
        refine Ev.pos ?_ (Ev.now _)
        show (!((at_ l (k + n)).f0 == 0) || (!((at_ l (k + n)).f1 == 0) || (!(((at_ l (k + n)).f2).toList == (⟨#[]⟩ : ByteArray).toList) || (!((at_ l (k + n)).f3 == zsum))))) = true
        rw [e, Bool.eq_false_iff.mpr z]
        rfl
    · rw [if_neg c1]
      have t0 : 0 ≤ Int.tmod k n := Int.tmod_nonneg _ (by omega)
      have t1 : Int.tmod k n < n := Int.tmod_lt_of_pos _ (by omega)
      refine Ev.neg c1 (Ev.neg (by omega) (Ev.pos t0 (Ev.pos (by omega) ?_)))
      rw [at_eq l _ t0]
      obtain ⟨x, hx⟩ : ∃ x, x = at_ l (Int.tmod k n) := ⟨_, rfl⟩
      rw [← hx]
      have hd : wrap64 (Int.tdiv k n) = Int.tdiv k n := by
        have a1 : 0 ≤ Int.tdiv k n := Int.tdiv_nonneg (by omega) (by omega)
        have a2 : Int.tdiv k n ≤ k := Int.tdiv_le_self _ (by omega)
        exact w64 (by omega) (by omega)
      have hd2 : wrap64 (wrap64 (Int.tdiv k n) + 1) = Int.tdiv k n + 1 := by
        have a1 : 0 ≤ Int.tdiv k n := Int.tdiv_nonneg (by omega) (by omega)
        have a2 : Int.tdiv k n ≤ k := Int.tdiv_le_self _ (by omega)
        rw [hd]
        exact w64 (by omega) (by omega)
      have tail : ∀ (b : Bool), b = false → Ev (fun q => impl_GoodRing.j2 q n last k b l h c t x.f0 x.f1 x.f2 x.f3) (if intact x = true ∧ okAt x n t k last then gscan l n t m x.f1 (k + 1) else false) := by
        intro b hb
        subst hb
        refine Ev.step (fun q => by rw [impl_GoodRing.j2]) (Ev.neg Bool.false_ne_true (Ev.bind' _ (intact_ev x) ?_))
        by_cases i1 : intact x = true
        · refine Ev.pos i1 (Ev.neg (by omega) ?_)
          rw [hd2]
          unfold okAt
          by_cases o1 : x.f0 = Int.tdiv k n + 1
          · refine Ev.pos o1 ?_
            by_cases o2 : x.f1 > k
            · exact Ev.pos o2 (Ev.now' (by rw [if_neg (fun q => q.2.2.1 o2)]))
            refine Ev.neg o2 ?_
            by_cases o3 : x.f1 > t
            · exact Ev.pos o3 (Ev.now' (by rw [if_neg (fun q => q.2.2.2.1 o3)]))
            refine Ev.neg o3 ?_
            by_cases o4 : x.f1 < last
            · exact Ev.pos o4 (Ev.now' (by rw [if_neg (fun q => q.2.2.2.2 o4)]))
            refine Ev.neg o4 ?_
            rw [if_pos ⟨i1, o1, o2, o3, o4⟩]
            exact nx x.f1
          · exact Ev.neg o1 (Ev.now' (by rw [if_neg (fun q => o1 q.2.1)]))
        · exact Ev.neg i1 (Ev.now' (by rw [if_neg (fun q => i1 q.1)]))
      by_cases c2 : k < t
      · refine Ev.pos c2 (Ev.bind' _ zslot_ev ?_)
        show Ev (fun q => impl_GoodRing.j2 q n last k (isZero x) l h c t x.f0 x.f1 x.f2 x.f3) _
        by_cases z : isZero x = true
        · rw [if_pos ⟨c2, z⟩, z]
          exact Ev.step (fun q => by rw [impl_GoodRing.j2]) (Ev.pos rfl (nx last))
        · rw [if_neg (fun q => z q.2)]
          exact tail _ (Bool.eq_false_iff.mpr z)
      · rw [if_neg (fun q => c2 q.1)]
        exact Ev.neg c2 (tail false rfl)
/-! ### what is right stays right -/
theorem gscan_le (l : List Sl) (n t : Int) : ∀ (m : Nat) (last last' k : Int), last' ≤ last → gscan l n t m last k = true → gscan l n t m last' k = true
  | 0, _, _, _, _, _ => rfl
  | m + 1, last, last', k, hl, h => by
    rw [gscan] at h ⊢
    by_cases c1 : k < 0
    · rw [if_pos c1] at h ⊢
      by_cases z : isZero (at_ l (k + n)) = true
      · rw [if_pos z] at h ⊢
        exact gscan_le l n t m last last' (k + 1) hl h
      · rw [if_neg z] at h
        cases h
    · rw [if_neg c1] at h ⊢
      by_cases z : k < t ∧ isZero (at_ l (Int.tmod k n)) = true
      · rw [if_pos z] at h ⊢
        exact gscan_le l n t m last last' (k + 1) hl h
      · rw [if_neg z] at h ⊢
        by_cases o : intact (at_ l (Int.tmod k n)) = true ∧ okAt (at_ l (Int.tmod k n)) n t k last
        · rw [if_pos o] at h
          rw [if_pos ⟨o.1, o.2.1, o.2.2.1, o.2.2.2.1, fun q => o.2.2.2.2 (by omega)⟩]
          exact h
        · rw [if_neg o] at h
          cases h
theorem gscan_push (l : List Sl) (n t t' : Int) (ht : t ≤ t') : ∀ (m : Nat) (last k : Int), gscan l n t m last k = true → gscan l n t' m last k = true
  | 0, _, _, _ => rfl
  | m + 1, last, k, h => by
    rw [gscan] at h ⊢
    by_cases c1 : k < 0
    · rw [if_pos c1] at h ⊢
      by_cases z : isZero (at_ l (k + n)) = true
      · rw [if_pos z] at h ⊢
        exact gscan_push l n t t' ht m last (k + 1) h
      · rw [if_neg z] at h
        cases h
    · rw [if_neg c1] at h ⊢
      by_cases z : k < t ∧ isZero (at_ l (Int.tmod k n)) = true
      · rw [if_pos z] at h
        rw [if_pos ⟨by omega, z.2⟩]
        exact gscan_push l n t t' ht m last (k + 1) h
      · rw [if_neg z] at h
        by_cases o : intact (at_ l (Int.tmod k n)) = true ∧ okAt (at_ l (Int.tmod k n)) n t k last
        · rw [if_pos o] at h
          have r := gscan_push l n t t' ht m _ (k + 1) h
          obtain ⟨o1, o2, o3, o4, o5⟩ := o
          by_cases z' : k < t' ∧ isZero (at_ l (Int.tmod k n)) = true
          · rw [if_pos z']
            exact gscan_le l n t' m _ last (k + 1) (by omega) r
          · rw [if_neg z', if_pos ⟨o1, o2, o3, by omega, o5⟩]
            exact r
        · rw [if_neg o] at h
          cases h
/-- A record more: the slots of the others stay, and the new one is right. -/
theorem gscan_put (l l' : List Sl) (n t h : Int) (hn : 2 ≤ n) (ht0 : 0 ≤ t) (hth : t ≤ h) (hsame : ∀ j : Int, 0 ≤ j → j < n → j ≠ Int.tmod h n → at_ l' j = at_ l j)
    (hnew : intact (at_ l' (Int.tmod h n)) = true ∧ (at_ l' (Int.tmod h n)).f0 = Int.tdiv h n + 1 ∧ (at_ l' (Int.tmod h n)).f1 = t) (hh : 0 ≤ h) :
    ∀ (m : Nat) (last k : Int), k + (m : Int) = h → h + 1 - n ≤ k → last ≤ t → gscan l n t m last k = true → gscan l' n t (m + 1) last k = true := by
  intro m
  induction m with
  | zero =>
    intro last k hk hk2 hlt _
    have e : k = h := by omega
    subst e
    rw [gscan, if_neg (by omega), if_neg (by omega), if_pos ⟨hnew.1, hnew.2.1, by omega, by omega, by omega⟩, gscan]
  | succ m ih =>
    intro last k hk hk2 hlt h0
    have hne : k < 0 → k + n ≠ Int.tmod h n := by
      intro c1 e
      have e2 : Int.tmod h n = h := Int.tmod_eq_of_lt hh (by omega)
      omega
    have hne2 : 0 ≤ k → Int.tmod k n ≠ Int.tmod h n := by
      intro c1 e
      have d1 := Int.mul_tdiv_add_tmod k n
      have d2 := Int.mul_tdiv_add_tmod h n
      have hlt' : h - k < n := by omega
      have hgt : 0 < h - k := by omega
      have e3 : n * (Int.tdiv h n - Int.tdiv k n) = h - k := by rw [Int.mul_sub]; omega
      rcases (show 0 < Int.tdiv h n - Int.tdiv k n ∨ Int.tdiv h n - Int.tdiv k n ≤ 0 by omega) with q | q
      · have : n * 1 ≤ n * (Int.tdiv h n - Int.tdiv k n) := Int.mul_le_mul_of_nonneg_left (by omega) (by omega)
        omega
      · have : n * (Int.tdiv h n - Int.tdiv k n) ≤ n * 0 := Int.mul_le_mul_of_nonneg_left (by omega) (by omega)
        omega
    rw [gscan] at h0 ⊢
    by_cases c1 : k < 0
    · rw [if_pos c1] at h0 ⊢
      rw [hsame (k + n) (by omega) (by omega) (hne c1)]
      by_cases z : isZero (at_ l (k + n)) = true
      · rw [if_pos z] at h0 ⊢
        exact ih last (k + 1) (by omega) (by omega) hlt h0
      · rw [if_neg z] at h0
        cases h0
    · rw [if_neg c1] at h0 ⊢
      rw [hsame (Int.tmod k n) (Int.tmod_nonneg _ (by omega)) (Int.tmod_lt_of_pos _ (by omega)) (hne2 (by omega))]
      by_cases z : k < t ∧ isZero (at_ l (Int.tmod k n)) = true
      · rw [if_pos z] at h0 ⊢
        exact ih last (k + 1) (by omega) (by omega) hlt h0
      · rw [if_neg z] at h0 ⊢
        by_cases o : intact (at_ l (Int.tmod k n)) = true ∧ okAt (at_ l (Int.tmod k n)) n t k last
        · rw [if_pos o] at h0 ⊢
          exact ih _ (k + 1) (by omega) (by omega) (by have := o.2.2.2.1; omega) h0
        · rw [if_neg o] at h0
          cases h0
end Go.Proofs.YthlifcbkpafofaaDoor.Q
