import Derived.Test.YthlifcbkpafofaaDoorRingSum
import Derived.Test.YthlifcbkpafofaaDoorG3
import Derived.Test.YthlifcbkpafofaaDoorG4
namespace Go.Proofs.YthlifcbkpafofaaDoor.Q
open Go.RowKit Go.Proofs.YthlifcbkpafofaaDoorW.PrintWords Go.Proofs.YthlifcbkpafofaaDoor.G
set_option linter.unusedVariables false
set_option linter.unusedSimpArgs false

theorem zero_evs : ∃ z, Ev (fun k => spec_l10Zero.f k) (0, 0, (⟨#[]⟩ : ByteArray), z) ∧ Ev (fun k => impl_zeroSlot.f k) (0, 0, (⟨#[]⟩ : ByteArray), z) := by
  obtain ⟨h1, h2⟩ := slotSum_evs 0 0 ⟨#[]⟩ 0
  exact ⟨slotSum 0 0 ⟨#[]⟩, by unfold spec_l10Zero.f; exact Ev.bind' _ h1 (Ev.now _), by unfold impl_zeroSlot.f; exact Ev.bind' _ h2 (Ev.now _)⟩
theorem whole_evs (a b : Int) (s : ByteArray) (c : Int) : ∃ w, Ev (fun k => spec_l10Whole.f k a b s c) w ∧ Ev (fun k => impl_isIntact.f k a b s c) w := by
  obtain ⟨h1, h2⟩ := slotSum_evs a b s c
  unfold spec_l10Whole.f impl_isIntact.f
  by_cases h : SlotOk a b s
  · exact ⟨_, Ev.bindc _ (specSlot_eq _ _ _ _) (Ev.pos (by simpa using h) (Ev.bind' _ h1 (Ev.now _))), Ev.bindc _ (implSlot_eq _ _ _ _) (Ev.pos (by simpa using h) (Ev.bind' _ h2 (Ev.now _)))⟩
  · exact ⟨_, Ev.bindc _ (specSlot_eq _ _ _ _) (Ev.neg (by simpa using h) (Ev.now _)), Ev.bindc _ (implSlot_eq _ _ _ _) (Ev.neg (by simpa using h) (Ev.now _))⟩
theorem good_slot (l : List S26) (n x4 x5 h c t : Int) (hn : n ≠ 0) (b : Bool) (a0 a1 : Int) (a2 : ByteArray) (a3 : Int)
    (next : ∀ y, ∃ r, Ev (fun k => spec_GoodRing.l0 k n y (wrap64 (x5 + 1)) l h c t) r ∧ Ev (fun k => impl_GoodRing.l0 k n y (wrap64 (x5 + 1)) l h c t) r) :
    ∃ r, Ev (fun k => spec_GoodRing.j2 k n x4 x5 b l h c t a0 a1 a2 a3) r ∧ Ev (fun k => impl_GoodRing.j2 k n x4 x5 b l h c t a0 a1 a2 a3) r := by
  have s2 : ∀ r, Ev (fun k => if b = true then (spec_GoodRing.l0 k n x4 (wrap64 (x5 + 1)) l h c t) else ((spec_l10Whole.f k a0 a1 a2 a3).bind fun t187 => (if t187 = true then (if n = 0 then (none) else (spec_GoodRing.j3 k n x4 x5 (a0 != (wrap64 ((wrap64 (Int.tdiv x5 n)) + 1))) l h c t a0 a1 a2 a3)) else (spec_GoodRing.j3 k n x4 x5 true l h c t a0 a1 a2 a3)))) r → Ev (fun k => spec_GoodRing.j2 k n x4 x5 b l h c t a0 a1 a2 a3) r := fun r e => Ev.step (fun k => by rw [spec_GoodRing.j2]) e
  have i2 : ∀ r, Ev (fun k => if b = true then (impl_GoodRing.l0 k n x4 (wrap64 (x5 + 1)) l h c t) else ((impl_isIntact.f k a0 a1 a2 a3).bind fun t223 => (if t223 = true then (if n = 0 then (none) else (if a0 = (wrap64 ((wrap64 (Int.tdiv x5 n)) + 1)) then (if a1 > x5 then (some false) else (if a1 > t then (some false) else (if a1 < x4 then (some false) else (impl_GoodRing.l0 k n a1 (wrap64 (x5 + 1)) l h c t)))) else (some false))) else (some false)))) r → Ev (fun k => impl_GoodRing.j2 k n x4 x5 b l h c t a0 a1 a2 a3) r := fun r e => Ev.step (fun k => by rw [impl_GoodRing.j2]) e
  have bad : Ev (fun k => spec_GoodRing.j3 k n x4 x5 true l h c t a0 a1 a2 a3) false := Ev.step (fun k => by rw [spec_GoodRing.j3]) (Ev.pos rfl (Ev.now _))
  cases b with
  | true =>
    obtain ⟨r, e1, e2⟩ := next x4
    exact ⟨r, s2 r (Ev.pos rfl e1), i2 r (Ev.pos rfl e2)⟩
  | false =>
    obtain ⟨w, w1, w2⟩ := whole_evs a0 a1 a2 a3
    cases w with
    | false => exact ⟨false, s2 _ (Ev.neg Bool.false_ne_true (Ev.bind' _ w1 (Ev.neg Bool.false_ne_true bad))), i2 _ (Ev.neg Bool.false_ne_true (Ev.bind' _ w2 (Ev.neg Bool.false_ne_true (Ev.now _))))⟩
    | true =>
      by_cases e : a0 = wrap64 ((wrap64 (Int.tdiv x5 n)) + 1)
      · have eb : (a0 != (wrap64 ((wrap64 (Int.tdiv x5 n)) + 1))) = false := by simp [← e]
        have go : ∀ r, Ev (fun k => if a1 < x4 then (some false) else (if a1 > x5 then (some false) else (if a1 > t then (some false) else (spec_GoodRing.l0 k n a1 (wrap64 (x5 + 1)) l h c t)))) r → Ev (fun k => spec_GoodRing.j2 k n x4 x5 false l h c t a0 a1 a2 a3) r := fun r q => by
          refine s2 r (Ev.neg Bool.false_ne_true (Ev.bind' _ w1 (Ev.pos rfl (Ev.neg hn ?_))))
          rw [eb]
          exact Ev.step (fun k => by rw [spec_GoodRing.j3]) (Ev.neg Bool.false_ne_true q)
        have go2 : ∀ r, Ev (fun k => if a1 > x5 then (some false) else (if a1 > t then (some false) else (if a1 < x4 then (some false) else (impl_GoodRing.l0 k n a1 (wrap64 (x5 + 1)) l h c t)))) r → Ev (fun k => impl_GoodRing.j2 k n x4 x5 false l h c t a0 a1 a2 a3) r := fun r q =>
          i2 _ (Ev.neg Bool.false_ne_true (Ev.bind' _ w2 (Ev.pos rfl (Ev.neg hn (Ev.pos e q)))))
        by_cases c1 : a1 < x4
        · refine ⟨false, go _ (Ev.pos c1 (Ev.now _)), go2 _ ?_⟩
          by_cases c2 : a1 > x5
          · exact Ev.pos c2 (Ev.now _)
          · by_cases c3 : a1 > t
            · exact Ev.neg c2 (Ev.pos c3 (Ev.now _))
            · exact Ev.neg c2 (Ev.neg c3 (Ev.pos c1 (Ev.now _)))
        · by_cases c2 : a1 > x5
          · exact ⟨false, go _ (Ev.neg c1 (Ev.pos c2 (Ev.now _))), go2 _ (Ev.pos c2 (Ev.now _))⟩
          · by_cases c3 : a1 > t
            · exact ⟨false, go _ (Ev.neg c1 (Ev.neg c2 (Ev.pos c3 (Ev.now _)))), go2 _ (Ev.neg c2 (Ev.pos c3 (Ev.now _)))⟩
            · obtain ⟨r, e1, e2⟩ := next a1
              exact ⟨r, go _ (Ev.neg c1 (Ev.neg c2 (Ev.neg c3 e1))), go2 _ (Ev.neg c2 (Ev.neg c3 (Ev.neg c1 e2)))⟩
      · have eb : (a0 != (wrap64 ((wrap64 (Int.tdiv x5 n)) + 1))) = true := by simp [e]
        refine ⟨false, s2 _ (Ev.neg Bool.false_ne_true (Ev.bind' _ w1 (Ev.pos rfl (Ev.neg hn ?_)))), i2 _ (Ev.neg Bool.false_ne_true (Ev.bind' _ w2 (Ev.pos rfl (Ev.neg hn (Ev.neg e (Ev.now _))))))⟩
        rw [eb]
        exact bad
theorem good_loop (l : List S26) (n h c t : Int) (hn : n = (l.length : Int)) (h2 : 2 ≤ n ∧ n ≤ 24) (hh : 0 ≤ h ∧ h ≤ 10000000) : ∀ d : Nat, ∀ x4 x5 : Int, (h - x5).toNat = d → h - n ≤ x5 → x5 ≤ h →
    ∃ r, Ev (fun k => spec_GoodRing.l0 k n x4 x5 l h c t) r ∧ Ev (fun k => impl_GoodRing.l0 k n x4 x5 l h c t) r := by
  obtain ⟨z, z1, z2⟩ := zero_evs
  intro d
  induction d with
  | zero =>
    intro x4 x5 hd h3 h4
    exact ⟨true, Ev.step (fun k => by rw [spec_GoodRing.l0]) (Ev.neg (by omega) (Ev.now _)), Ev.step (fun k => by rw [impl_GoodRing.l0]) (Ev.neg (by omega) (Ev.now _))⟩
  | succ d ih =>
    intro x4 x5 hd h3 h4
    have e1 : wrap64 (x5 + 1) = x5 + 1 := w64 (by omega) (by omega)
    have next : ∀ y, ∃ r, Ev (fun k => spec_GoodRing.l0 k n y (wrap64 (x5 + 1)) l h c t) r ∧ Ev (fun k => impl_GoodRing.l0 k n y (wrap64 (x5 + 1)) l h c t) r := fun y => by
      rw [e1]
      exact ih y (x5 + 1) (by omega) (by omega) (by omega)
    by_cases hneg : x5 < 0
    · have e2 : wrap64 (x5 + n) = x5 + n := w64 (by omega) (by omega)
      obtain ⟨r, a, b⟩ := next x4
      by_cases cc : (!(((rd_T26 l (x5 + n)).f0) == (0 : Int)) || (!(((rd_T26 l (x5 + n)).f1) == (0 : Int)) || (!((((rd_T26 l (x5 + n)).f2).toList) == (⟨#[]⟩ : ByteArray).toList) || (!(((rd_T26 l (x5 + n)).f3) == z))))) = true
      · refine ⟨false, Ev.step (fun k => by rw [spec_GoodRing.l0]) ?_, Ev.step (fun k => by rw [impl_GoodRing.l0]) ?_⟩
        · rw [e2]; exact Ev.pos (by omega) (Ev.pos hneg (Ev.pos (by omega) (Ev.pos (by omega) (Ev.bind' _ z1 (Ev.pos cc (Ev.now _))))))
        · rw [e2]; exact Ev.pos (by omega) (Ev.pos hneg (Ev.pos (by omega) (Ev.pos (by omega) (Ev.bind' _ z2 (Ev.pos cc (Ev.now _))))))
      · refine ⟨r, Ev.step (fun k => by rw [spec_GoodRing.l0]) ?_, Ev.step (fun k => by rw [impl_GoodRing.l0]) ?_⟩
        · rw [e2]; exact Ev.pos (by omega) (Ev.pos hneg (Ev.pos (by omega) (Ev.pos (by omega) (Ev.bind' _ z1 (Ev.neg cc a)))))
        · rw [e2]; exact Ev.pos (by omega) (Ev.pos hneg (Ev.pos (by omega) (Ev.pos (by omega) (Ev.bind' _ z2 (Ev.neg cc b)))))
    · have m0 : 0 ≤ Int.tmod x5 n := Int.tmod_nonneg _ (by omega)
      have m1 : Int.tmod x5 n < n := Int.tmod_lt_of_pos _ (by omega)
      by_cases ct : x5 < t
      · obtain ⟨r, a, b⟩ := good_slot l n x4 x5 h c t (by omega) ((rd_T26 l (Int.tmod x5 n)).f0 == (0 : Int) && (((rd_T26 l (Int.tmod x5 n)).f1) == (0 : Int) && ((((rd_T26 l (Int.tmod x5 n)).f2).toList) == (⟨#[]⟩ : ByteArray).toList && (((rd_T26 l (Int.tmod x5 n)).f3) == z)))) (rd_T26 l (Int.tmod x5 n)).f0 (rd_T26 l (Int.tmod x5 n)).f1 (rd_T26 l (Int.tmod x5 n)).f2 (rd_T26 l (Int.tmod x5 n)).f3 next
        exact ⟨r, Ev.step (fun k => by rw [spec_GoodRing.l0]) (Ev.pos (by omega) (Ev.neg hneg (Ev.neg (by omega) (Ev.pos m0 (Ev.pos (by omega) (Ev.pos ct (Ev.bind' _ z1 a))))))), Ev.step (fun k => by rw [impl_GoodRing.l0]) (Ev.pos (by omega) (Ev.neg hneg (Ev.neg (by omega) (Ev.pos m0 (Ev.pos (by omega) (Ev.pos ct (Ev.bind' _ z2 b)))))))⟩
      · obtain ⟨r, a, b⟩ := good_slot l n x4 x5 h c t (by omega) false (rd_T26 l (Int.tmod x5 n)).f0 (rd_T26 l (Int.tmod x5 n)).f1 (rd_T26 l (Int.tmod x5 n)).f2 (rd_T26 l (Int.tmod x5 n)).f3 next
        exact ⟨r, Ev.step (fun k => by rw [spec_GoodRing.l0]) (Ev.pos (by omega) (Ev.neg hneg (Ev.neg (by omega) (Ev.pos m0 (Ev.pos (by omega) (Ev.neg ct a)))))), Ev.step (fun k => by rw [impl_GoodRing.l0]) (Ev.pos (by omega) (Ev.neg hneg (Ev.neg (by omega) (Ev.pos m0 (Ev.pos (by omega) (Ev.neg ct b))))))⟩
theorem good_both0 (l : List S26) (n h c t : Int) (hn : n = (l.length : Int)) (h2 : 2 ≤ n ∧ n ≤ 24) (hh : 0 ≤ h ∧ h ≤ 10000000) (b : Bool) :
    ∃ r, Ev (fun k => spec_GoodRing.j0 k n b l h c t) r ∧ Ev (fun k => impl_GoodRing.j0 k n b l h c t) r := by
  cases b with
  | true => exact ⟨false, Ev.step (fun k => by rw [spec_GoodRing.j0]) (Ev.pos rfl (Ev.now _)), Ev.step (fun k => by rw [impl_GoodRing.j0]) (Ev.pos rfl (Ev.now _))⟩
  | false =>
    obtain ⟨r, a, b⟩ := good_loop l n h c t hn h2 hh _ 0 (h - n) rfl (by omega) (by omega)
    have e : wrap64 (h - n) = h - n := w64 (by omega) (by omega)
    refine ⟨r, Ev.step (fun k => by rw [spec_GoodRing.j0]) (Ev.neg Bool.false_ne_true ?_), Ev.step (fun k => by rw [impl_GoodRing.j0]) (Ev.neg Bool.false_ne_true ?_)⟩
    · rw [e]; exact a
    · rw [e]; exact b
theorem goodRing_full (l : List S26) (h c t : Int) (hl : l.length ≤ 1048576) : ∃ r, Ev (fun k => spec_GoodRing.f k l h c t) r ∧ Ev (fun k => impl_GoodRing.f k l h c t) r ∧ (r = true → 2 ≤ (l.length : Int) ∧ (l.length : Int) ≤ 24 ∧ 0 ≤ h ∧ h ≤ 10000000 ∧ 0 ≤ t ∧ t ≤ h ∧ h - t ≤ (l.length : Int)) := by
  have n1 : Ev (fun k => spec_GoodRing.j0 k (l.length : Int) true l h c t) false := Ev.step (fun k => by rw [spec_GoodRing.j0]) (Ev.pos rfl (Ev.now _))
  have n2 : Ev (fun k => impl_GoodRing.j0 k (l.length : Int) true l h c t) false := Ev.step (fun k => by rw [impl_GoodRing.j0]) (Ev.pos rfl (Ev.now _))
  unfold spec_GoodRing.f impl_GoodRing.f
  by_cases c1 : 2 ≤ (l.length : Int) ∧ (l.length : Int) ≤ 24
  · by_cases c2 : 0 ≤ h ∧ h ≤ 10000000
    · have e1 : wrap64 (h - (l.length : Int)) = h - (l.length : Int) := w64 (by omega) (by omega)
      have em : mx 0 (h - (l.length : Int)) = if 0 < h - (l.length : Int) then h - (l.length : Int) else 0 := rfl
      rw [e1, em]
      by_cases c3 : 0 ≤ t ∧ t ≤ h
      · have e2 : wrap64 (h - t) = h - t := w64 (by omega) (by omega)
        rw [e2]
        by_cases c4 : h - t > (l.length : Int)
        · exact ⟨false, Ev.bindc _ (in_eq _ _ _) (Ev.pos (by simpa using c1) (Ev.bindc _ (in_eq _ _ _) (Ev.pos (by simpa using c2) (Ev.bindc _ (in_eq _ _ _) (Ev.pos (by simpa using c3) (Ev.pos c4 n1)))))), Ev.bindc _ (within_eq' _ _ _) (Ev.pos (by simpa using c1) (Ev.bindc _ (within_eq' _ _ _) (Ev.pos (by simpa using c2) (Ev.bindc _ (within_eq' _ _ _) (Ev.neg (by rw [decide_eq_true_eq]; split <;> omega) n2))))), fun h => by cases h⟩
        · obtain ⟨r, a, b⟩ := good_both0 l (l.length : Int) h c t rfl c1 c2 (c != (wrap64 ((wrap64 (Int.tdiv h (l.length : Int))) + 1)))
          exact ⟨r, Ev.bindc _ (in_eq _ _ _) (Ev.pos (by simpa using c1) (Ev.bindc _ (in_eq _ _ _) (Ev.pos (by simpa using c2) (Ev.bindc _ (in_eq _ _ _) (Ev.pos (by simpa using c3) (Ev.neg c4 (Ev.neg (by omega) a))))))), Ev.bindc _ (within_eq' _ _ _) (Ev.pos (by simpa using c1) (Ev.bindc _ (within_eq' _ _ _) (Ev.pos (by simpa using c2) (Ev.bindc _ (within_eq' _ _ _) (Ev.pos (by rw [decide_eq_true_eq]; split <;> omega) (Ev.neg (by omega) b)))))), fun _ => by omega⟩
      · exact ⟨false, Ev.bindc _ (in_eq _ _ _) (Ev.pos (by simpa using c1) (Ev.bindc _ (in_eq _ _ _) (Ev.pos (by simpa using c2) (Ev.bindc _ (in_eq _ _ _) (Ev.neg (by simpa using c3) n1))))), Ev.bindc _ (within_eq' _ _ _) (Ev.pos (by simpa using c1) (Ev.bindc _ (within_eq' _ _ _) (Ev.pos (by simpa using c2) (Ev.bindc _ (within_eq' _ _ _) (Ev.neg (by rw [decide_eq_true_eq]; split <;> omega) n2))))), fun h => by cases h⟩
    · exact ⟨false, Ev.bindc _ (in_eq _ _ _) (Ev.pos (by simpa using c1) (Ev.bindc _ (in_eq _ _ _) (Ev.neg (by simpa using c2) n1))), Ev.bindc _ (within_eq' _ _ _) (Ev.pos (by simpa using c1) (Ev.bindc _ (within_eq' _ _ _) (Ev.neg (by simpa using c2) n2))), fun h => by cases h⟩
  · exact ⟨false, Ev.bindc _ (in_eq _ _ _) (Ev.neg (by simpa using c1) n1), Ev.bindc _ (within_eq' _ _ _) (Ev.neg (by simpa using c1) n2), fun h => by cases h⟩
theorem goodRing_both (l : List S26) (h c t : Int) (hl : l.length ≤ 1048576) : ∃ r, Ev (fun k => spec_GoodRing.f k l h c t) r ∧ Ev (fun k => impl_GoodRing.f k l h c t) r := by
  obtain ⟨r, a, b, _⟩ := goodRing_full l h c t hl
  exact ⟨r, a, b⟩
end Go.Proofs.YthlifcbkpafofaaDoor.Q
