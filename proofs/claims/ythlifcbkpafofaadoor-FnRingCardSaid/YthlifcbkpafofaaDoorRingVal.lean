/- PutRecord and PushTail of both as plain values. -/
import Derived.Test.YthlifcbkpafofaaDoorRingRecs
import Derived.Test.YthlifcbkpafofaaDoorRingPut
namespace Go.Proofs.YthlifcbkpafofaaDoor.Q
open Go.RowKit Go.Proofs.YthlifcbkpafofaaDoorW.PrintWords Go.Proofs.YthlifcbkpafofaaDoor.G
set_option linter.unusedVariables false
set_option linter.unusedSimpArgs false
theorem good_both' (l : List Sl) (h c t : Int) (hl : l.length ≤ 1048576) : Ev (fun k => spec_GoodRing.f k l h c t) (good l h c t) ∧ Ev (fun k => impl_GoodRing.f k l h c t) (good l h c t) := by
  obtain ⟨r, a, b⟩ := goodRing_both l h c t hl
  have e := good_ev l h c t
  have : r = good l h c t := by
    obtain ⟨K1, h1⟩ := b
    obtain ⟨K2, h2⟩ := e
    have x1 := h1 (max K1 K2) (Nat.le_max_left _ _)
    have x2 := h2 (max K1 K2) (Nat.le_max_right _ _)
    rw [x1] at x2
    exact Option.some.inj x2
  subst this
  exact ⟨a, b⟩
def noRing : List Sl × Int × Int × Int × Bool := ([], 0, 0, 0, false)
noncomputable def putV (l : List Sl) (h c t : Int) (s : ByteArray) : List Sl × Int × Int × Int × Bool :=
  if good l h c t = true ∧ s.size ≤ 12 ∧ h - t < (l.length : Int) ∧ h ≠ 10000000 then
    (l.set (Int.tmod h (l.length : Int)).toNat (⟨c, t, s, slotSum c t s⟩ : Sl), h + 1, Int.tdiv (h + 1) (l.length : Int) + 1, t, true) else noRing
theorem put_val (l : List Sl) (h c t : Int) (s : ByteArray) (hl : l.length ≤ 1048576) : Ev (fun k => spec_PutRecord.f k l h c t s) (putV l h c t s) ∧ Ev (fun k => impl_PutRecord.f k l h c t s) (putV l h c t s) := by
  obtain ⟨e1, e2⟩ := good_both' l h c t hl
  have n1 : Ev (fun k => spec_PutRecord.j0 k s (l.length : Int) true l h c t) noRing := Ev.step (fun k => by rw [spec_PutRecord.j0]) (Ev.pos rfl (Ev.now' (show ([], 0, 0, 0, false) = noRing from rfl)))
  have n2 : Ev (fun k => impl_PutRecord.j0 k s (l.length : Int) true l h c t) noRing := Ev.step (fun k => by rw [impl_PutRecord.j0]) (Ev.pos rfl (Ev.now' (show ([], 0, 0, 0, false) = noRing from rfl)))
  unfold spec_PutRecord.f impl_PutRecord.f putV
  cases hg : good l h c t with
  | false =>
    rw [hg] at e1 e2
    rw [if_neg (fun q => Bool.false_ne_true q.1)]
    exact ⟨Ev.bind' _ e1 (Ev.neg Bool.false_ne_true n1), Ev.bind' _ e2 (Ev.neg Bool.false_ne_true n2)⟩
  | true =>
    rw [hg] at e1 e2
    have G := good_iff.1 hg
    have g1 := G.n1; have g2 := G.n2; have g3 := G.h0; have g4 := G.h1; have g5 := G.t0; have g6 := G.t1; have g7 := G.ht
    by_cases c1 : (s.size : Int) > 12
    · rw [if_neg (fun q => by omega)]
      exact ⟨Ev.bind' _ e1 (Ev.pos rfl (Ev.pos c1 n1)), Ev.bind' _ e2 (Ev.pos rfl (Ev.pos c1 n2))⟩
    have hw : wrap64 (h - t) = h - t := w64 (by omega) (by omega)
    by_cases c2 : h - t = (l.length : Int)
    · rw [if_neg (fun q => by omega)]
      exact ⟨Ev.bind' _ e1 (Ev.pos rfl (Ev.neg c1 (Ev.pos (by rw [hw]; exact c2) n1))), Ev.bind' _ e2 (Ev.pos rfl (Ev.neg c1 (Ev.pos (by rw [hw]; exact c2) n2)))⟩
    have c2' : ¬ wrap64 (h - t) = (l.length : Int) := by rw [hw]; exact c2
    by_cases c3 : h = 10000000
    · rw [if_neg (fun q => q.2.2.2 c3)]
      have eb : (h == 10000000) = true := by simpa using c3
      exact ⟨Ev.bind' _ e1 (Ev.pos rfl (Ev.neg c1 (Ev.neg c2' (by rw [eb]; exact n1)))), Ev.bind' _ e2 (Ev.pos rfl (Ev.neg c1 (Ev.neg c2' (by rw [eb]; exact n2))))⟩
    · rw [if_pos ⟨rfl, by omega, by omega, c3⟩]
      have eb : (h == 10000000) = false := by simpa using c3
      obtain ⟨s1, s2⟩ := slotSum_evs c t s 0
      have t0 : 0 ≤ Int.tmod h (l.length : Int) := Int.tmod_nonneg _ g3
      have t1 : Int.tmod h (l.length : Int) < (l.length : Int) := Int.tmod_lt_of_pos _ (by omega)
      have hne : ¬ ((l.length : Int) = 0) := by omega
      have a1 : 0 ≤ Int.tdiv (h + 1) (l.length : Int) := Int.tdiv_nonneg (by omega) (by omega)
      have a2 : Int.tdiv (h + 1) (l.length : Int) ≤ h + 1 := Int.tdiv_le_self _ (by omega)
      have hw1 : wrap64 (h + 1) = h + 1 := w64 (by omega) (by omega)
      have hw2 : wrap64 ((wrap64 (Int.tdiv (wrap64 (h + 1)) (l.length : Int))) + 1) = Int.tdiv (h + 1) (l.length : Int) + 1 := by
        rw [hw1, w64 (x := Int.tdiv (h + 1) (l.length : Int)) (by omega) (by omega)]
        exact w64 (by omega) (by omega)
      rw [eb]
      constructor
      · refine Ev.bind' _ e1 (Ev.pos rfl (Ev.neg c1 (Ev.neg c2' (Ev.step (fun k => by rw [spec_PutRecord.j0]) (Ev.neg Bool.false_ne_true (Ev.bindc _ (own_s l h c t hl) (Ev.bind' _ s1 (Ev.neg hne (Ev.pos t0 (Ev.pos t1 (Ev.now' ?_)))))))))))
        rw [hw2, hw1]
      · refine Ev.bind' _ e2 (Ev.pos rfl (Ev.neg c1 (Ev.neg c2' (Ev.step (fun k => by rw [impl_PutRecord.j0]) (Ev.neg Bool.false_ne_true (Ev.bindc _ (own_i l h c t hl) (Ev.bind' _ s2 (Ev.neg hne (Ev.pos t0 (Ev.pos t1 (Ev.now' ?_)))))))))))
        rw [hw2, hw1]
noncomputable def pushV (l : List Sl) (h c t m : Int) : List Sl × Int × Int × Int × Bool :=
  if good l h c t = true ∧ 0 ≤ m ∧ m ≤ h - t then (l, h, c, t + m, true) else noRing
theorem push_val (l : List Sl) (h c t m : Int) (hl : l.length ≤ 1048576) : Ev (fun k => spec_PushTail.f k l h c t m) (pushV l h c t m) ∧ Ev (fun k => impl_PushTail.f k l h c t m) (pushV l h c t m) := by
  obtain ⟨e1, e2⟩ := good_both' l h c t hl
  unfold spec_PushTail.f impl_PushTail.f pushV
  cases hg : good l h c t with
  | false =>
    rw [hg] at e1 e2
    rw [if_neg (fun q => Bool.false_ne_true q.1)]
    exact ⟨Ev.bind' _ e1 (Ev.neg Bool.false_ne_true (Ev.now' (show ([], 0, 0, 0, false) = noRing from rfl))), Ev.bind' _ e2 (Ev.neg Bool.false_ne_true (Ev.now' (show ([], 0, 0, 0, false) = noRing from rfl)))⟩
  | true =>
    rw [hg] at e1 e2
    have G := good_iff.1 hg
    have g3 := G.h0; have g4 := G.h1; have g5 := G.t0; have g6 := G.t1
    have hw : wrap64 (h - t) = h - t := w64 (by omega) (by omega)
    by_cases c1 : 0 ≤ m ∧ m ≤ h - t
    · rw [if_pos ⟨rfl, c1.1, c1.2⟩]
      have hw1 : wrap64 (t + m) = t + m := w64 (by omega) (by omega)
      constructor
      · refine Ev.bind' _ e1 (Ev.pos rfl (Ev.bindc _ (in_eq _ _ _) (Ev.pos (by rw [hw]; simpa using c1) (Ev.bindc _ (own_s l h c t hl) (Ev.now' ?_)))))
        rw [hw1]
      · refine Ev.bind' _ e2 (Ev.pos rfl (Ev.bindc _ (within_eq' _ _ _) (Ev.pos (by rw [hw]; simpa using c1) (Ev.bindc _ (own_i l h c t hl) (Ev.now' ?_)))))
        rw [hw1]
    · rw [if_neg (fun q => c1 ⟨q.2.1, q.2.2⟩)]
      have c1' : ¬ decide (0 ≤ m ∧ m ≤ wrap64 (h - t)) = true := by rw [hw]; simpa using c1
      exact ⟨Ev.bind' _ e1 (Ev.pos rfl (Ev.bindc _ (in_eq _ _ _) (Ev.neg c1' (Ev.now' (show ([], 0, 0, 0, false) = noRing from rfl))))), Ev.bind' _ e2 (Ev.pos rfl (Ev.bindc _ (within_eq' _ _ _) (Ev.neg c1' (Ev.now' (show ([], 0, 0, 0, false) = noRing from rfl)))))⟩
end Go.Proofs.YthlifcbkpafofaaDoor.Q
