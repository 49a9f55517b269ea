/- Lemmas on the laws' own helpers, printed by a program of this session (gen_help.py). No statement. -/
import Derived.Test.YtpfimjgfojdhhaaHBase
import Derived.Test.YtpfimjgfojdhhaaG2
namespace Go.Proofs.Ytpfimjgfojdhhaa.Q
open Go.RowKit Go.Proofs.YtpfimjgfojdhhaaW.PrintWords Go.Proofs.Ytpfimjgfojdhhaa.G
set_option linter.unusedVariables false
set_option linter.unusedSimpArgs false
theorem rdiItem (l : List S56) (i : Nat) : rd_T56 l (i : Int) = l.getD i z56 := by simp [rd_T56]
theorem szItemS_ev (l : List S68) (hl : l.length ≤ maxLen) (a : Int) (h0 : 0 ≤ a) (h1 : a ≤ 4611686018427387904) : ∃ r, Ev (fun k => laws_szItemS.f l a) r ∧ (¬ r < 0 → 0 ≤ r ∧ r ≤ a ∧ (l.length : Int) ≤ a) := by
  unfold maxLen at hl;unfold laws_szItemS.f;rw [w64 (x := a - (l.length : Int)) (by omega) (by omega)]
  exact szd fun h => ⟨_, Ev.now _, fun _ => by omega⟩
def convItem (x : S68) : S56 := (⟨x.f0, x.f1, (⟨x.f2.f0, x.f2.f1⟩ : S40), x.f3⟩ : S56)
theorem toItemS_ev (l : List S68) (h : l.length ≤ 1048576) : Ev (fun k => laws_toItemS.f k l) (l.map convItem) := by
  have loop : ∀ d i, l.length - i = d → i ≤ l.length → Ev (fun k => laws_toItemS.l0 k l (((l.take i).map convItem) ++ List.replicate (l.length - i) z56) (i : Int)) (l.map convItem) := by
    intro d
    induction d with
    | zero =>
      intro i hd hi
      have : i = l.length := by omega
      subst this;refine Ev.step (fun k => by rw [laws_toItemS.l0]) ?_;refine Ev.neg (by omega) (Ev.now' (by simp))
    | succ d ih =>
      intro i hd hi;have next := ih (i + 1) (by omega) (by omega)
      have e : (((l.take i).map convItem) ++ List.replicate (l.length - i) z56).set i (convItem (l.getD i z68)) = ((l.take (i + 1)).map convItem) ++ List.replicate (l.length - (i + 1)) z56 := by
        rw [take_succ_getD l i z68 (by omega), show l.length - i = (l.length - (i + 1)) + 1 by omega, List.replicate_succ, List.map_append, List.append_assoc, List.set_append_right _ _ (by simp; omega)]
        simp [Nat.min_eq_left hi]
      have next' : Ev (fun k => laws_toItemS.l0 k l ((((l.take i).map convItem) ++ List.replicate (l.length - i) z56).set i (convItem (l.getD i z68))) ((i : Int) + 1)) (l.map convItem) := by rw [e]; exact next
      refine Ev.step (fun k => by rw [laws_toItemS.l0]) ?_;rw [w64 (x := (i : Int) + 1) (by omega) (by omega)];exact Ev.pos (by omega) (Ev.pos (by omega) (Ev.bindc _ rfl (Ev.pos (by simp; omega) next')))
  unfold laws_toItemS.f;refine Ev.pos (by omega) (Ev.pos (by omega) ?_);have := loop l.length 0 rfl (by omega)
  simpa using this
theorem eqItem_refl (x0 : Int) (x1 : Int) (x2 : Int) (x3 : Int) (x4 : Int) : laws_eqItem.f x0 x1 x2 x3 x4 x0 x1 x2 x3 x4 = some true := by
  simp [laws_eqItem.f, laws_eqExtent.f]
theorem eqItemS_refl (l : List S56) (h : l.length ≤ 4611686018427387904) : Ev (fun k => laws_eqItemS.f k l l) true := by
  have loop : ∀ d i, l.length - i = d → i ≤ l.length → Ev (fun k => laws_eqItemS.l0 k l l (i : Int)) true := by
    intro d
    induction d with
    | zero =>
      intro i hd hi
      have : i = l.length := by omega
      subst this;exact Ev.step (fun k => by rw [laws_eqItemS.l0]) (Ev.neg (by omega) (Ev.now _))
    | succ d ih =>
      intro i hd hi;refine Ev.step (fun k => by rw [laws_eqItemS.l0]) ?_;rw [w64 (x := (i : Int) + 1) (by omega) (by omega)];refine Ev.pos (by omega) (Ev.pos (by omega) (Ev.pos (by omega) (Ev.bindc _ (eqItem_refl _ _ _ _ _) (Ev.pos rfl ?_))));exact ih (i + 1) (by omega) (by omega)
  unfold laws_eqItemS.f;exact Ev.pos rfl (loop l.length 0 rfl (by omega))
/-- The element that a mark leaves. -/
def mkItem (a : Int) : S56 := (⟨a, a + 1, (⟨a + 1 + 1, a + 1 + 1 + 1⟩ : S40), a + 1 + 1 + 1 + 1⟩ : S56)
theorem markItemS_ev (l : List S56) (a : Int) (h0 : 0 ≤ a) (h1 : a + 5 * (l.length : Int) ≤ 1152921504606846976) : ∃ (q : Int) (m : List S56), Ev (fun k => laws_markItemS.f k l a) (q, m) ∧ Ev (fun k => laws_heldItemS.f k m a) q ∧ a ≤ q ∧ q = a + 5 * (l.length : Int) ∧ m.length = l.length := by
  have hM : ((List.range l.length).map (fun i : Nat => mkItem (a + 5 * (i : Int)))).length = l.length := marked_len _ _
  generalize hm : (List.range l.length).map (fun i : Nat => mkItem (a + 5 * (i : Int))) = m at hM
  have hg : ∀ i, i < l.length → m.getD i z56 = mkItem (a + 5 * (i : Int)) := fun i hi => by rw [← hm]; exact marked_get _ _ _ _ hi
  refine ⟨a + 5 * (l.length : Int), m, ?_, ?_, by omega, rfl, hM⟩
  · have loop : ∀ d i, l.length - i = d → i ≤ l.length → Ev (fun k => laws_markItemS.l0 k (m.take i ++ l.drop i) (a + 5 * (i : Int)) (i : Int)) (a + 5 * (l.length : Int), m) := by
      intro d
      induction d with
      | zero =>
        intro i hd hi
        have : i = l.length := by omega
        subst this;refine Ev.step (fun k => by rw [laws_markItemS.l0]) ?_;refine Ev.neg (by simp [hM]) (Ev.now' ?_);rw [List.drop_length, List.append_nil, List.take_of_length_le (by omega)]
      | succ d ih =>
        intro i hd hi
        have hL : (m.take i ++ l.drop i).length = l.length := by rw [List.length_append, List.length_take, List.length_drop]; omega
        have next := ih (i + 1) (by omega) (by omega);rw [take_succ_getD m i z56 (by omega), hg i (by omega), List.append_assoc, List.singleton_append] at next;refine Ev.step (fun k => by rw [laws_markItemS.l0]) ?_
        have hb0 : 0 ≤ a + 5 * (i : Int) := by omega
        have hb1 : a + 5 * (i : Int) + 5 ≤ 1152921504606846976 := by omega
        have hn : a + 5 * ((i + 1 : Nat) : Int) = a + 5 * (i : Int) + 1 + 1 + 1 + 1 + 1 := by omega
        rw [hn] at next
        generalize a + 5 * (i : Int) = b at hb0 hb1 next ⊢
        unfold mkItem at next;rw [w64 (x := b + 1) (by omega) (by omega), w64 (x := b + 1 + 1) (by omega) (by omega), w64 (x := b + 1 + 1 + 1) (by omega) (by omega), w64 (x := b + 1 + 1 + 1 + 1) (by omega) (by omega), w64 (x := b + 1 + 1 + 1 + 1 + 1) (by omega) (by omega), w64 (x := (i : Int) + 1) (by omega) (by omega), Int.toNat_natCast];refine Ev.pos (by rw [hL]; omega) ?_;refine Ev.pos (by omega) ?_;refine Ev.bindc _ rfl ?_;refine Ev.bindc _ rfl ?_;refine Ev.bindc _ rfl ?_;refine Ev.bindc _ rfl ?_;simp only [rdiItem, set_at m l i _ hM (by omega), set_at2 m l i _ _ hM (by omega), get_at m l i _ _ hM (by omega), get_at0 m l i _ hM (by omega)];exact next
    have := loop l.length 0 rfl (by omega);unfold laws_markItemS.f
    simpa using this
  · have loop : ∀ d i, l.length - i = d → i ≤ l.length → Ev (fun k => laws_heldItemS.l0 k m (a + 5 * (i : Int)) (i : Int)) (a + 5 * (l.length : Int)) := by
      intro d
      induction d with
      | zero =>
        intro i hd hi
        have : i = l.length := by omega
        subst this;refine Ev.step (fun k => by rw [laws_heldItemS.l0]) ?_;exact Ev.neg (by rw [hM]; omega) (Ev.now _)
      | succ d ih =>
        intro i hd hi;have next := ih (i + 1) (by omega) (by omega);refine Ev.step (fun k => by rw [laws_heldItemS.l0]) ?_
        have hr : rd_T56 m (i : Int) = mkItem (a + 5 * (i : Int)) := by rw [rdiItem, hg i (by omega)]
        have hb0 : 0 ≤ a + 5 * (i : Int) := by omega
        have hb1 : a + 5 * (i : Int) + 5 ≤ 1152921504606846976 := by omega
        have hn : a + 5 * ((i + 1 : Nat) : Int) = a + 5 * (i : Int) + 1 + 1 + 1 + 1 + 1 := by omega
        rw [hn] at next;rw [hr, hM]
        generalize a + 5 * (i : Int) = b at hb0 hb1 next ⊢
        rw [w64 (x := b + 1) (by omega) (by omega), w64 (x := b + 1 + 1) (by omega) (by omega), w64 (x := b + 1 + 1 + 1) (by omega) (by omega), w64 (x := b + 1 + 1 + 1 + 1) (by omega) (by omega), w64 (x := b + 1 + 1 + 1 + 1 + 1) (by omega) (by omega), w64 (x := (i : Int) + 1) (by omega) (by omega)];refine Ev.pos (by omega) (Ev.pos (by omega) ?_);refine Ev.pos rfl ?_;refine Ev.pos rfl ?_;refine Ev.pos rfl ?_;refine Ev.pos rfl ?_;refine Ev.pos rfl ?_;exact next
    have := loop l.length 0 rfl (by omega);unfold laws_heldItemS.f
    simpa using this
end Go.Proofs.Ytpfimjgfojdhhaa.Q
