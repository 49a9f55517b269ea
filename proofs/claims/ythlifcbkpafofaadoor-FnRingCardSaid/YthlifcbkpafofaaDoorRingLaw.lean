/- The law of a ring: what is appended comes last, what lies before the tail is gone. -/
import Derived.Test.YthlifcbkpafofaaDoorRingDraw
import Derived.Test.YthlifcbkpafofaaDoorG6
import Derived.Test.YthlifcbkpafofaaDoorG7
namespace Go.Proofs.YthlifcbkpafofaaDoor.Q
open Go.RowKit Go.Proofs.YthlifcbkpafofaaDoorW.PrintWords Go.Proofs.YthlifcbkpafofaaDoor.G
set_option linter.unusedVariables false
set_option linter.unusedSimpArgs false
theorem sameR_loop (l : List Sl) (h c t : Int) (hl : l.length ≤ 1048576) : ∀ (m : Nat) (x : Int), ((l.length : Int) - x).toNat = m → 0 ≤ x → x ≤ (l.length : Int) → Ev (fun k => laws_sameRings.l0 k (l.length : Int) x l h c t l h c t) true := by
  intro m
  induction m with
  | zero =>
    intro x hm h0 h1
    exact Ev.step (fun k => by rw [laws_sameRings.l0]) (Ev.neg (by omega) (Ev.now _))
  | succ m ih =>
    intro x hm h0 h1
    have hw : wrap64 (x + 1) = x + 1 := w64 (by omega) (by omega)
    have hx : x < (l.length : Int) := by omega
    have e := ih (x + 1) (by omega) (by omega) (by omega)
    refine Ev.step (fun k => by rw [laws_sameRings.l0]) (Ev.pos hx (Ev.pos h0 (Ev.pos hx (Ev.pos hx (Ev.neg ?_ ?_)))))
    · simp
    · rw [hw]
      exact e
theorem sameR (l : List Sl) (h c t : Int) (hl : l.length ≤ 1048576) : Ev (fun k => laws_sameRings.f k l h c t l h c t) true := by
  unfold laws_sameRings.f
  refine Ev.pos rfl (Ev.pos rfl (Ev.pos rfl (Ev.step (fun k => by rw [laws_sameRings.j0]) (Ev.neg ?_ ?_))))
  · simp
  · exact sameR_loop l h c t hl l.length 0 (by omega) (Int.le_refl _) (by omega)
theorem sameT_loop (l : List ByteArray) (hl : l.length ≤ 1048576) : ∀ (m : Nat) (x : Int), ((l.length : Int) - x).toNat = m → 0 ≤ x → x ≤ (l.length : Int) → Ev (fun k => laws_sameTexts.l0 k l l (l.length : Int) x) true := by
  intro m
  induction m with
  | zero =>
    intro x hm h0 h1
    exact Ev.step (fun k => by rw [laws_sameTexts.l0]) (Ev.neg (by omega) (Ev.now _))
  | succ m ih =>
    intro x hm h0 h1
    have hw : wrap64 (x + 1) = x + 1 := w64 (by omega) (by omega)
    have hx : x < (l.length : Int) := by omega
    have e := ih (x + 1) (by omega) (by omega) (by omega)
    refine Ev.step (fun k => by rw [laws_sameTexts.l0]) (Ev.pos hx (Ev.pos h0 (Ev.pos hx (Ev.pos hx (Ev.pos rfl ?_)))))
    rw [hw]
    exact e
theorem sameT (a b : List ByteArray) (e : a = b) (hl : a.length ≤ 1048576) : Ev (fun k => laws_sameTexts.f k a b) true := by
  subst e
  unfold laws_sameTexts.f
  exact Ev.pos rfl (sameT_loop a hl a.length 0 (by omega) (Int.le_refl _) (by omega))
theorem j2_ok (L : List Sl) (h c t m : Int) (hl : L.length ≤ 7) : Ev (fun k => laws_FnRing.j2 k m (pushV L h c t m).2.2.2.2 false L h c t (pushV L h c t m).1 (pushV L h c t m).2.1 (pushV L h c t m).2.2.1 (pushV L h c t m).2.2.2.1) true := by
  refine Ev.step (fun k => by rw [laws_FnRing.j2]) (Ev.neg Bool.false_ne_true ?_)
  unfold pushV
  by_cases c1 : good L h c t = true ∧ 0 ≤ m ∧ m ≤ h - t
  · rw [if_pos c1]
    have G := good_iff.1 c1.1
    have ht := G.ht
    have e1 := recs_ev G
    have G2 := push_good G c1.2.1 c1.2.2
    have e2 := recs_ev G2
    have e3 := good_ev L h c (t + m)
    rw [good_iff.2 G2] at e3
    have en : ((recs L (L.length : Int) (h - t).toNat t).length : Int) = h - t := by rw [recs_length]; omega
    have hm : m ≤ ((recs L (L.length : Int) (h - t).toNat t).length : Int) := by rw [en]; exact c1.2.2
    have es := sameT (recs L (L.length : Int) (h - (t + m)).toNat (t + m)) ((recs L (L.length : Int) (h - t).toNat t).drop m.toNat) (push_recs G c1.2.1 c1.2.2) (by rw [recs_length]; omega)
    dsimp only
    exact Ev.pos rfl (Ev.bind' _ e1 (Ev.bind' _ e2 (Ev.pos rfl (Ev.pos rfl (Ev.pos c1.2.1 (Ev.pos hm (Ev.bind' _ es (Ev.pos rfl (Ev.bind' _ e3 (Ev.now _))))))))))
  · rw [if_neg c1]
    exact Ev.neg Bool.false_ne_true (Ev.now' rfl)
theorem pushV_len (L : List Sl) (h c t m : Int) (hl : L.length ≤ 7) : (pushV L h c t m).1.length ≤ 7 := by
  unfold pushV
  split
  · exact hl
  · exact Nat.zero_le _
theorem putV_len (L : List Sl) (h c t : Int) (s : ByteArray) (hl : L.length ≤ 7) : (putV L h c t s).1.length ≤ 7 := by
  unfold putV
  split
  · rw [List.length_set]; exact hl
  · exact Nat.zero_le _
theorem ne_self (b : Bool) : (b != b) = false := by cases b <;> rfl
theorem j1_ok (l1 : List Int) (h1 : ByteList l1) : Ev (fun k => laws_FnRing.j1 k l1) true := by
  obtain ⟨L, h, c, t, m, e, n1, n2, hh⟩ := drawPush_ok l1 h1
  have hl : L.length ≤ 7 := by omega
  obtain ⟨es, ei⟩ := push_val L h c t m (by omega)
  have n3 := pushV_len L h c t m hl
  have e4 := sameR (pushV L h c t m).1 (pushV L h c t m).2.1 (pushV L h c t m).2.2.1 (pushV L h c t m).2.2.2.1 (by omega)
  have ne : ¬ ((pushV L h c t m).2.2.2.2 != (pushV L h c t m).2.2.2.2) = true := by rw [ne_self]; decide
  exact Ev.step (fun k => by rw [laws_FnRing.j1]) (Ev.bind' _ e (Ev.bind' _ ei (Ev.bind' _ es (Ev.neg ne (Ev.bind' _ e4 (j2_ok L h c t m hl))))))
theorem j0_ok (l1 : List Int) (h1 : ByteList l1) (L : List Sl) (h c t : Int) (s : ByteArray) (hl : L.length ≤ 7) (hh : h ≤ 1000) : Ev (fun k => laws_FnRing.j0 k l1 s (putV L h c t s).2.2.2.2 false L h c t (putV L h c t s).1 (putV L h c t s).2.1 (putV L h c t s).2.2.1 (putV L h c t s).2.2.2.1) true := by
  refine Ev.step (fun k => by rw [laws_FnRing.j0]) (Ev.neg Bool.false_ne_true ?_)
  have ej := j1_ok l1 h1
  unfold putV
  by_cases c1 : good L h c t = true ∧ s.size ≤ 12 ∧ h - t < (L.length : Int) ∧ h ≠ 10000000
  · rw [if_pos c1]
    have G := good_iff.1 c1.1
    have ht := G.ht; have g0 := G.h0; have g1 := G.n1; have t1 := G.t1; have t0 := G.t0
    have a2 : Int.tdiv h (L.length : Int) ≤ h := Int.tdiv_le_self _ g0
    have cy := G.cy
    have G2 := put_good G s c1.2.1 c1.2.2.1 (by omega) (by omega)
    have R2 := put_recs G s c1.2.2.1
    have e1 := recs_ev G
    have e2 := recs_ev G2
    have e3 := room_ev G2
    have e5 := good_ev (L.set (Int.tmod h (L.length : Int)).toNat (⟨c, t, s, slotSum c t s⟩ : Sl)) (h + 1) (Int.tdiv (h + 1) (L.length : Int) + 1) t
    rw [good_iff.2 G2] at e5
    rw [List.length_set] at e2 e3
    rw [R2] at e2
    have es := sameT (recs L (L.length : Int) (h - t).toNat t ++ [s]) (([] : List ByteArray) ++ recs L (L.length : Int) (h - t).toNat t ++ [s]) (by rw [List.nil_append]) (by rw [List.length_append, recs_length, List.length_singleton]; omega)
    have len2 : ((L.set (Int.tmod h (L.length : Int)).toNat (⟨c, t, s, slotSum c t s⟩ : Sl)).length : Int) = (L.length : Int) := by rw [List.length_set]
    have hn : wrap64 ((L.length : Int) - (h + 1 - t) + ((recs L (L.length : Int) (h - t).toNat t ++ [s]).length : Int)) = ((L.set (Int.tmod h (L.length : Int)).toNat (⟨c, t, s, slotSum c t s⟩ : Sl)).length : Int) := by
      rw [len2, List.length_append, recs_length, List.length_singleton, w64 (by omega) (by omega)]
      omega
    have q1 : ([] : List ByteArray).length + (recs L (L.length : Int) (h - t).toNat t).length < 8796093022208 := by rw [recs_length, List.length_nil]; omega
    have q2 : (([] : List ByteArray) ++ recs L (L.length : Int) (h - t).toNat t).length < 8796093022208 := by rw [List.nil_append, recs_length]; omega
    dsimp only
    exact Ev.pos rfl (Ev.bind' _ e1 (Ev.bind' _ e2 (Ev.bind' _ e3 (Ev.pos rfl (Ev.pos rfl (Ev.pos rfl (Ev.bindc _ rfl (Ev.pos q1 (Ev.bindc _ rfl (Ev.pos q2 (Ev.bind' _ es (Ev.pos rfl (Ev.pos hn (Ev.bind' _ e5 (Ev.pos rfl ej)))))))))))))))
  · rw [if_neg c1]
    exact Ev.neg Bool.false_ne_true ej
theorem fnRing_pure : laws_FnRing.Pure := by
  intro l0 l1 w0 w1
  have b0 := bytes_of w0.2
  have b1 := bytes_of w1.2
  have e : Ev (fun k => laws_FnRing.f k l0 l1) true := by
    unfold laws_FnRing.f
    by_cases c0 : (wrap64 ((l0.length : Int) + (l1.length : Int))) > 1048576
    · exact Ev.pos c0 (Ev.now _)
    · obtain ⟨L, h, c, t, s, e, n1, n2, hh⟩ := drawPut_ok l0 b0
      have hl : L.length ≤ 7 := by omega
      obtain ⟨es, ei⟩ := put_val L h c t s (by omega)
      obtain ⟨gs, gi⟩ := good_both' L h c t (by omega)
      have n3 := putV_len L h c t s hl
      have e4 := sameR (putV L h c t s).1 (putV L h c t s).2.1 (putV L h c t s).2.2.1 (putV L h c t s).2.2.2.1 (by omega)
      have ne : ¬ ((putV L h c t s).2.2.2.2 != (putV L h c t s).2.2.2.2) = true := by rw [ne_self]; decide
      have ej := j0_ok l1 b1 L h c t s hl hh
      refine Ev.neg c0 (Ev.bind' _ e (Ev.bind' _ ei (Ev.bind' _ es (Ev.neg ne (Ev.bind' _ e4 (Ev.pos rfl (Ev.bind' _ gi (Ev.bind' _ gs ?_))))))))
      rw [ne_self]
      exact ej
  obtain ⟨K, hK⟩ := e
  exact ⟨K, hK K (Nat.le_refl _)⟩
end Go.Proofs.YthlifcbkpafofaaDoor.Q
