/- A good ring, its records, one record more, the tail pushed: the program's answers as plain values. -/
import Derived.Test.YthlifcbkpafofaaDoorRingScan
import Derived.Test.YthlifcbkpafofaaDoorRingGood
import Derived.Test.YthlifcbkpafofaaDoorG4
namespace Go.Proofs.YthlifcbkpafofaaDoor.Q
open Go.RowKit Go.Proofs.YthlifcbkpafofaaDoorW.PrintWords Go.Proofs.YthlifcbkpafofaaDoor.G
set_option linter.unusedVariables false
set_option linter.unusedSimpArgs false
noncomputable def good (l : List Sl) (h c t : Int) : Bool :=
  decide (2 ≤ (l.length : Int) ∧ (l.length : Int) ≤ 24 ∧ 0 ≤ h ∧ h ≤ 10000000 ∧ 0 ≤ t ∧ t ≤ h ∧ h - t ≤ (l.length : Int) ∧ c = Int.tdiv h (l.length : Int) + 1) && gscan l (l.length : Int) t l.length 0 (h - (l.length : Int))
theorem good_ev (l : List Sl) (h c t : Int) : Ev (fun k => impl_GoodRing.f k l h c t) (good l h c t) := by
  have n2 : Ev (fun k => impl_GoodRing.j0 k (l.length : Int) true l h c t) false := Ev.step (fun k => by rw [impl_GoodRing.j0]) (Ev.pos rfl (Ev.now _))
  have no : ∀ p : Prop, [Decidable p] → ¬ p → ∀ b : Bool, (decide p && b) = false := fun p _ hp b => by rw [decide_eq_false hp, Bool.false_and]
  unfold impl_GoodRing.f good
  by_cases c1 : 2 ≤ (l.length : Int) ∧ (l.length : Int) ≤ 24
  · by_cases c2 : 0 ≤ h ∧ h ≤ 10000000
    · have e1 : wrap64 (h - (l.length : Int)) = h - (l.length : Int) := w64 (by omega) (by omega)
      have em : mx 0 (h - (l.length : Int)) = if 0 < h - (l.length : Int) then h - (l.length : Int) else 0 := rfl
      rw [e1, em]
      by_cases c3 : (if 0 < h - (l.length : Int) then h - (l.length : Int) else 0) ≤ t ∧ t ≤ h
      · have hb : 0 ≤ t ∧ t ≤ h ∧ h - t ≤ (l.length : Int) := by
          split at c3 <;> omega
        have a1 : 0 ≤ Int.tdiv h (l.length : Int) := Int.tdiv_nonneg (by omega) (by omega)
        have a2 : Int.tdiv h (l.length : Int) ≤ h := Int.tdiv_le_self _ (by omega)
        have ed : wrap64 ((wrap64 (Int.tdiv h (l.length : Int))) + 1) = Int.tdiv h (l.length : Int) + 1 := by
          rw [w64 (x := Int.tdiv h (l.length : Int)) (by omega) (by omega)]
          exact w64 (by omega) (by omega)
        rw [ed]
        refine Ev.bindc _ (within_eq' _ _ _) (Ev.pos (by simpa using c1) (Ev.bindc _ (within_eq' _ _ _) (Ev.pos (by simpa using c2) (Ev.bindc _ (within_eq' _ _ _) (Ev.pos (by simpa using c3) (Ev.neg (by omega) ?_))))))
        by_cases c4 : c = Int.tdiv h (l.length : Int) + 1
        · rw [decide_eq_true ⟨c1.1, c1.2, c2.1, c2.2, hb.1, hb.2.1, hb.2.2, c4⟩, Bool.true_and, ← c4]
          refine Ev.step (fun k => by rw [impl_GoodRing.j0]) (Ev.neg (by simp) ?_)
          rw [e1]
          exact scan_ev l h c t (l.length : Int) rfl c1.1 c1.2 c2.1 c2.2 l.length 0 (h - (l.length : Int)) (by omega) (Int.le_refl _) (by omega)
        · have eb : (c != (Int.tdiv h (l.length : Int) + 1)) = true := by simpa using c4
          rw [eb]
          exact Ev.eq n2 (no _ (fun q => c4 q.2.2.2.2.2.2.2) _).symm
      · refine Ev.eq (Ev.bindc _ (within_eq' _ _ _) (Ev.pos (by simpa using c1) (Ev.bindc _ (within_eq' _ _ _) (Ev.pos (by simpa using c2) (Ev.bindc _ (within_eq' _ _ _) (Ev.neg (by simpa using c3) n2)))))) (no _ (fun q => c3 ?_) _).symm
        split <;> omega
    · exact Ev.eq (Ev.bindc _ (within_eq' _ _ _) (Ev.pos (by simpa using c1) (Ev.bindc _ (within_eq' _ _ _) (Ev.neg (by simpa using c2) n2)))) (no _ (fun q => c2 ⟨q.2.2.1, q.2.2.2.1⟩) _).symm
  · exact Ev.eq (Ev.bindc _ (within_eq' _ _ _) (Ev.neg (by simpa using c1) n2)) (no _ (fun q => c1 ⟨q.1, q.2.1⟩) _).symm
structure Good (l : List Sl) (h c t : Int) : Prop where
  n1 : 2 ≤ (l.length : Int)
  n2 : (l.length : Int) ≤ 24
  h0 : 0 ≤ h
  h1 : h ≤ 10000000
  t0 : 0 ≤ t
  t1 : t ≤ h
  ht : h - t ≤ (l.length : Int)
  cy : c = Int.tdiv h (l.length : Int) + 1
  sc : gscan l (l.length : Int) t l.length 0 (h - (l.length : Int)) = true
theorem good_iff {l : List Sl} {h c t : Int} : good l h c t = true ↔ Good l h c t := by
  unfold good
  rw [Bool.and_eq_true, decide_eq_true_iff]
  exact ⟨fun ⟨⟨a, b, c, d, e, f, g, i⟩, s⟩ => ⟨a, b, c, d, e, f, g, i, s⟩, fun ⟨a, b, c, d, e, f, g, i, s⟩ => ⟨⟨a, b, c, d, e, f, g, i⟩, s⟩⟩
/-- The records from j on, m of them. -/
def recs (l : List Sl) (n : Int) : Nat → Int → List ByteArray
  | 0, _ => []
  | m + 1, j => (at_ l (Int.tmod j n)).f2 :: recs l n m (j + 1)
theorem recs_length (l : List Sl) (n : Int) : ∀ m j, (recs l n m j).length = m
  | 0, _ => rfl
  | m + 1, j => by rw [recs, List.length_cons, recs_length l n m]
theorem recs_drop (l : List Sl) (n : Int) : ∀ (q m : Nat) (j : Int), q ≤ m → (recs l n m j).drop q = recs l n (m - q) (j + (q : Int))
  | 0, m, j, _ => by simp
  | q + 1, 0, j, h => absurd h (by omega)
  | q + 1, m + 1, j, h => by
    rw [recs, List.drop_succ_cons, recs_drop l n q m (j + 1) (by omega), show m + 1 - (q + 1) = m - q by omega, show j + 1 + (q : Int) = j + ((q + 1 : Nat) : Int) by omega]
theorem recs_loop (l : List Sl) (h c t : Int) (h1 : 2 ≤ (l.length : Int)) (h2 : (l.length : Int) ≤ 24) (h3 : 0 ≤ h) (h4 : h ≤ 10000000) : ∀ (m : Nat) (x : Int) (acc : List ByteArray), 0 ≤ x → (h - x).toNat = m → acc.length + m ≤ 1000000 →
    Ev (fun k => impl_RecordsOf.l0 k acc x l h c t) (acc ++ recs l (l.length : Int) m x, true) := by
  intro m
  induction m with
  | zero =>
    intro x acc hx hm ha
    refine Ev.step (fun k => by rw [impl_RecordsOf.l0]) (Ev.neg ?_ (Ev.now' (show (acc, true) = (acc ++ recs l (l.length : Int) 0 x, true) by rw [recs, List.append_nil])))
    omega
  | succ m ih =>
    intro x acc hx hm ha
    have hw : wrap64 (x + 1) = x + 1 := w64 (by omega) (by omega)
    have e := ih (x + 1) (acc ++ [(at_ l (Int.tmod x (l.length : Int))).f2]) (by omega) (by omega) (by simp; omega)
    rw [List.append_assoc, List.singleton_append] at e
    have t0 : 0 ≤ Int.tmod x (l.length : Int) := Int.tmod_nonneg _ hx
    have t1 : Int.tmod x (l.length : Int) < (l.length : Int) := Int.tmod_lt_of_pos _ (by omega)
    refine Ev.step (fun k => by rw [impl_RecordsOf.l0]) (Ev.pos (by omega) (Ev.neg (by omega) (Ev.pos t0 (Ev.pos t1 (Ev.pos (by omega) ?_)))))
    rw [hw, at_eq l _ t0]
    exact e
theorem recs_ev {l : List Sl} {h c t : Int} (G : Good l h c t) : Ev (fun k => impl_RecordsOf.f k l h c t) (recs l (l.length : Int) (h - t).toNat t, true) := by
  unfold impl_RecordsOf.f
  have e := good_ev l h c t
  rw [good_iff.2 G] at e
  have ht := G.ht
  have n2 := G.n2
  exact Ev.bind' _ e (Ev.pos rfl (recs_loop l h c t G.n1 G.n2 G.h0 G.h1 (h - t).toNat t [] G.t0 rfl (by simp; omega)))
theorem room_ev {l : List Sl} {h c t : Int} (G : Good l h c t) : Ev (fun k => impl_RoomFor.f k l h c t) ((l.length : Int) - (h - t), true) := by
  unfold impl_RoomFor.f
  have e := good_ev l h c t
  rw [good_iff.2 G] at e
  have := G.ht; have := G.n2; have := G.t1; have := G.h1; have := G.t0
  refine Ev.bind' _ e (Ev.pos rfl (Ev.now' ?_))
  rw [w64 (x := h - t) (by omega) (by omega), w64 (by omega) (by omega)]
/-! ### one record more -/
theorem at_set (l : List Sl) (j i : Int) (x : Sl) (h0 : 0 ≤ j) (h1 : j < (l.length : Int)) (i0 : 0 ≤ i) : at_ (l.set j.toNat x) i = if i = j then x else at_ l i := by
  unfold at_
  by_cases e : i = j
  · subst e
    rw [if_pos rfl, getD_set_self _ _ _ _ (by omega)]
  · rw [if_neg e, getD_set_ne _ _ _ _ _ (by omega)]
/-- The first step taken off. -/
theorem gscan_tail {l : List Sl} {n t : Int} {m : Nat} {k : Int} (h : gscan l n t (m + 1) 0 k = true) (h0 : ∀ j : Int, 0 ≤ j → intact (at_ l j) = true → 0 ≤ (at_ l j).f1) (hn : 0 < n) : gscan l n t m 0 (k + 1) = true := by
  rw [gscan] at h
  by_cases c1 : k < 0
  · rw [if_pos c1] at h
    by_cases z : isZero (at_ l (k + n)) = true
    · rw [if_pos z] at h
      exact h
    · rw [if_neg z] at h
      cases h
  · rw [if_neg c1] at h
    by_cases z : k < t ∧ isZero (at_ l (Int.tmod k n)) = true
    · rw [if_pos z] at h
      exact h
    · rw [if_neg z] at h
      by_cases o : intact (at_ l (Int.tmod k n)) = true ∧ okAt (at_ l (Int.tmod k n)) n t k 0
      · rw [if_pos o] at h
        exact gscan_le l n t m _ 0 (k + 1) (h0 _ (Int.tmod_nonneg _ (by omega)) o.1) h
      · rw [if_neg o] at h
        cases h
theorem intact_tail {x : Sl} (h : intact x = true) : 0 ≤ x.f1 := by
  unfold intact at h
  rw [Bool.and_eq_true, decide_eq_true_iff] at h
  exact h.1.2.1.1
theorem put_good {l : List Sl} {h c t : Int} (G : Good l h c t) (s : ByteArray) (hs : s.size ≤ 12) (hroom : h - t < (l.length : Int)) (hmax : h < 10000000) (hc : c ≤ 1000000) :
    Good (l.set (Int.tmod h (l.length : Int)).toNat ⟨c, t, s, slotSum c t s⟩) (h + 1) (Int.tdiv (h + 1) (l.length : Int) + 1) t := by
  have n1 := G.n1; have n2 := G.n2; have h0 := G.h0; have t0 := G.t0; have t1 := G.t1; have h1 := G.h1
  have m0 : 0 ≤ Int.tmod h (l.length : Int) := Int.tmod_nonneg _ h0
  have m1 : Int.tmod h (l.length : Int) < (l.length : Int) := Int.tmod_lt_of_pos _ (by omega)
  have d0 : 0 ≤ Int.tdiv h (l.length : Int) := Int.tdiv_nonneg (by omega) (by omega)
  have hlen : ((l.set (Int.tmod h (l.length : Int)).toNat (⟨c, t, s, slotSum c t s⟩ : Sl)).length : Int) = (l.length : Int) := by rw [List.length_set]
  have okc : SlotOk c t s := by
    have e := G.cy
    unfold SlotOk
    exact ⟨⟨by omega, hc⟩, ⟨t0, by omega⟩, hs⟩
  refine ⟨by rw [hlen]; exact n1, by rw [hlen]; exact n2, by omega, by omega, t0, by omega, by rw [hlen]; omega, by rw [hlen], ?_⟩
  rw [hlen, List.length_set]
  have sc := G.sc
  obtain ⟨m, hm⟩ : ∃ m, l.length = m + 1 := ⟨l.length - 1, by omega⟩
  have peel : gscan l (l.length : Int) t m 0 (h + 1 - (l.length : Int)) = true := by
    have e1 : ∀ q : Nat, q = m + 1 → gscan l (l.length : Int) t q 0 (h - (l.length : Int)) = true → gscan l (l.length : Int) t m 0 (h - (l.length : Int) + 1) = true := fun q hq hh => by
      subst hq
      exact gscan_tail hh (fun j _ => intact_tail) (by omega)
    have e2 := e1 l.length hm sc
    rw [show h + 1 - (l.length : Int) = h - (l.length : Int) + 1 by omega]
    exact e2
  have hat : ∀ i : Int, 0 ≤ i → at_ (l.set (Int.tmod h (l.length : Int)).toNat (⟨c, t, s, slotSum c t s⟩ : Sl)) i = if i = Int.tmod h (l.length : Int) then (⟨c, t, s, slotSum c t s⟩ : Sl) else at_ l i := fun i hi => at_set l _ i _ m0 m1 hi
  have fin := gscan_put l (l.set (Int.tmod h (l.length : Int)).toNat (⟨c, t, s, slotSum c t s⟩ : Sl)) (l.length : Int) t h n1 t0 t1 (fun j j0 _ jn => by rw [hat j j0, if_neg jn])
    (by
      rw [hat _ m0, if_pos rfl]
      refine ⟨?_, G.cy, rfl⟩
      unfold intact
      rw [decide_eq_true okc, Bool.true_and]
      exact beq_self_eq_true _) h0 m 0 (h + 1 - (l.length : Int)) (by omega) (Int.le_refl _) t0 peel
  have e3 : ∀ q : Nat, q = m + 1 → gscan (l.set (Int.tmod h (l.length : Int)).toNat (⟨c, t, s, slotSum c t s⟩ : Sl)) (l.length : Int) t q 0 (h + 1 - (l.length : Int)) = true := fun q hq => by
    subst hq
    exact fin
  exact e3 l.length hm
theorem recs_same (l l' : List Sl) (n : Int) (hn : 0 < n) (f : Int) : ∀ (m : Nat) (j : Int), 0 ≤ j → (∀ i : Int, 0 ≤ i → i < n → i ≠ f → at_ l' i = at_ l i) → (∀ q : Int, j ≤ q → q < j + (m : Int) → Int.tmod q n ≠ f) → recs l' n m j = recs l n m j
  | 0, _, _, _, _ => rfl
  | m + 1, j, h0, h, hq => by
    rw [recs, recs, h _ (Int.tmod_nonneg _ h0) (Int.tmod_lt_of_pos _ hn) (hq j (Int.le_refl _) (by omega)), recs_same l l' n hn f m (j + 1) (by omega) h (fun q a b => hq q (by omega) (by omega))]
theorem recs_snoc (l : List Sl) (n : Int) : ∀ (m : Nat) (j : Int), recs l n (m + 1) j = recs l n m j ++ [(at_ l (Int.tmod (j + (m : Int)) n)).f2]
  | 0, j => by simp [recs]
  | m + 1, j => by
    rw [recs, recs_snoc l n m (j + 1), recs, List.cons_append, show j + 1 + (m : Int) = j + ((m + 1 : Nat) : Int) by omega]
theorem tmod_ne {h k n : Int} (hn : 2 ≤ n) (h0 : 0 ≤ k) (h1 : k < h) (h2 : h - k < n) : Int.tmod k n ≠ Int.tmod h n := by
  intro e
  have d1 := Int.mul_tdiv_add_tmod k n
  have d2 := Int.mul_tdiv_add_tmod h n
  have e3 : n * (Int.tdiv h n - Int.tdiv k n) = h - k := by rw [Int.mul_sub]; omega
  rcases (show 0 < Int.tdiv h n - Int.tdiv k n ∨ Int.tdiv h n - Int.tdiv k n ≤ 0 by omega) with q | q
  · have : n * 1 ≤ n * (Int.tdiv h n - Int.tdiv k n) := Int.mul_le_mul_of_nonneg_left (by omega) (by omega)
    omega
  · have : n * (Int.tdiv h n - Int.tdiv k n) ≤ n * 0 := Int.mul_le_mul_of_nonneg_left (by omega) (by omega)
    omega
/-- Behind a record more: the elder records, and then it. -/
theorem put_recs {l : List Sl} {h c t : Int} (G : Good l h c t) (s : ByteArray) (hroom : h - t < (l.length : Int)) :
    recs (l.set (Int.tmod h (l.length : Int)).toNat ⟨c, t, s, slotSum c t s⟩) (l.length : Int) (h + 1 - t).toNat t = recs l (l.length : Int) (h - t).toNat t ++ [s] := by
  have n1 := G.n1; have h0 := G.h0; have t0 := G.t0; have t1 := G.t1
  have m0 : 0 ≤ Int.tmod h (l.length : Int) := Int.tmod_nonneg _ h0
  have m1 : Int.tmod h (l.length : Int) < (l.length : Int) := Int.tmod_lt_of_pos _ (by omega)
  have hat : ∀ i : Int, 0 ≤ i → at_ (l.set (Int.tmod h (l.length : Int)).toNat (⟨c, t, s, slotSum c t s⟩ : Sl)) i = if i = Int.tmod h (l.length : Int) then (⟨c, t, s, slotSum c t s⟩ : Sl) else at_ l i := fun i hi => at_set l _ i _ m0 m1 hi
  rw [show (h + 1 - t).toNat = (h - t).toNat + 1 by omega, recs_snoc, show t + ((h - t).toNat : Int) = h by omega, hat _ m0, if_pos rfl]
  rw [recs_same l _ (l.length : Int) (by omega) (Int.tmod h (l.length : Int)) (h - t).toNat t t0 (fun i i0 _ ine => by rw [hat i i0, if_neg ine]) (fun q a b => tmod_ne n1 (by omega) (by omega) (by omega))]
theorem push_good {l : List Sl} {h c t m : Int} (G : Good l h c t) (h0 : 0 ≤ m) (h1 : m ≤ h - t) : Good l h c (t + m) := by
  have a1 := G.t0; have a2 := G.t1; have a3 := G.ht
  exact ⟨G.n1, G.n2, G.h0, G.h1, by omega, by omega, by omega, G.cy, gscan_push l _ t (t + m) (by omega) l.length 0 _ G.sc⟩
theorem push_recs {l : List Sl} {h c t m : Int} (G : Good l h c t) (h0 : 0 ≤ m) (h1 : m ≤ h - t) :
    recs l (l.length : Int) (h - (t + m)).toNat (t + m) = (recs l (l.length : Int) (h - t).toNat t).drop m.toNat := by
  rw [recs_drop l _ m.toNat (h - t).toNat t (by omega), show (h - t).toNat - m.toNat = (h - (t + m)).toNat by omega, show t + (m.toNat : Int) = t + m by omega]
end Go.Proofs.YthlifcbkpafofaaDoor.Q
