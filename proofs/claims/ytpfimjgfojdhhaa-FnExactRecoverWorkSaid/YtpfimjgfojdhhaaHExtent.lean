/- Lemmas on the laws' own helpers, printed by a program of this session (gen_help.py). No statement. -/
import Derived.Test.YtpfimjgfojdhhaaHBase
import Derived.Test.YtpfimjgfojdhhaaG2
namespace Go.Proofs.Ytpfimjgfojdhhaa.Q
open Go.RowKit Go.Proofs.YtpfimjgfojdhhaaW.PrintWords Go.Proofs.Ytpfimjgfojdhhaa.G
set_option linter.unusedVariables false
set_option linter.unusedSimpArgs false
theorem rdiExtent (l : List S40) (i : Nat) : rd_T40 l (i : Int) = l.getD i z40 := by simp [rd_T40]
theorem szExtentS_ev (l : List S29) (hl : l.length ≤ maxLen) (a : Int) (h0 : 0 ≤ a) (h1 : a ≤ 4611686018427387904) : ∃ r, Ev (fun k => laws_szExtentS.f l a) r ∧ (¬ r < 0 → 0 ≤ r ∧ r ≤ a ∧ (l.length : Int) ≤ a) := by
  unfold maxLen at hl;unfold laws_szExtentS.f;rw [w64 (x := a - (l.length : Int)) (by omega) (by omega)]
  exact szd fun h => ⟨_, Ev.now _, fun _ => by omega⟩
def convExtent (x : S29) : S40 := (⟨x.f0, x.f1⟩ : S40)
theorem toExtentS_ev (l : List S29) (h : l.length ≤ 1048576) : Ev (fun k => laws_toExtentS.f k l) (l.map convExtent) := by
  have loop : ∀ d i, l.length - i = d → i ≤ l.length → Ev (fun k => laws_toExtentS.l0 k l (((l.take i).map convExtent) ++ List.replicate (l.length - i) z40) (i : Int)) (l.map convExtent) := by
    intro d
    induction d with
    | zero =>
      intro i hd hi
      have : i = l.length := by omega
      subst this;refine Ev.step (fun k => by rw [laws_toExtentS.l0]) ?_;refine Ev.neg (by omega) (Ev.now' (by simp))
    | succ d ih =>
      intro i hd hi;have next := ih (i + 1) (by omega) (by omega)
      have e : (((l.take i).map convExtent) ++ List.replicate (l.length - i) z40).set i (convExtent (l.getD i z29)) = ((l.take (i + 1)).map convExtent) ++ List.replicate (l.length - (i + 1)) z40 := by
        rw [take_succ_getD l i z29 (by omega), show l.length - i = (l.length - (i + 1)) + 1 by omega, List.replicate_succ, List.map_append, List.append_assoc, List.set_append_right _ _ (by simp; omega)]
        simp [Nat.min_eq_left hi]
      have next' : Ev (fun k => laws_toExtentS.l0 k l ((((l.take i).map convExtent) ++ List.replicate (l.length - i) z40).set i (convExtent (l.getD i z29))) ((i : Int) + 1)) (l.map convExtent) := by rw [e]; exact next
      refine Ev.step (fun k => by rw [laws_toExtentS.l0]) ?_;rw [w64 (x := (i : Int) + 1) (by omega) (by omega)];exact Ev.pos (by omega) (Ev.pos (by omega) (Ev.bindc _ rfl (Ev.pos (by simp; omega) next')))
  unfold laws_toExtentS.f;refine Ev.pos (by omega) (Ev.pos (by omega) ?_);have := loop l.length 0 rfl (by omega)
  simpa using this
theorem eqExtent_refl (x0 : Int) (x1 : Int) : laws_eqExtent.f x0 x1 x0 x1 = some true := by
  simp [laws_eqExtent.f]
theorem eqExtentS_refl (l : List S40) (h : l.length ≤ 4611686018427387904) : Ev (fun k => laws_eqExtentS.f k l l) true := by
  have loop : ∀ d i, l.length - i = d → i ≤ l.length → Ev (fun k => laws_eqExtentS.l0 k l l (i : Int)) true := by
    intro d
    induction d with
    | zero =>
      intro i hd hi
      have : i = l.length := by omega
      subst this;exact Ev.step (fun k => by rw [laws_eqExtentS.l0]) (Ev.neg (by omega) (Ev.now _))
    | succ d ih =>
      intro i hd hi;refine Ev.step (fun k => by rw [laws_eqExtentS.l0]) ?_;rw [w64 (x := (i : Int) + 1) (by omega) (by omega)];refine Ev.pos (by omega) (Ev.pos (by omega) (Ev.pos (by omega) (Ev.bindc _ (eqExtent_refl _ _) (Ev.pos rfl ?_))));exact ih (i + 1) (by omega) (by omega)
  unfold laws_eqExtentS.f;exact Ev.pos rfl (loop l.length 0 rfl (by omega))
/-- The element that a mark leaves. -/
def mkExtent (a : Int) : S40 := (⟨a, a + 1⟩ : S40)
theorem markExtentS_ev (l : List S40) (a : Int) (h0 : 0 ≤ a) (h1 : a + 2 * (l.length : Int) ≤ 1152921504606846976) : ∃ (q : Int) (m : List S40), Ev (fun k => laws_markExtentS.f k l a) (q, m) ∧ Ev (fun k => laws_heldExtentS.f k m a) q ∧ a ≤ q ∧ q = a + 2 * (l.length : Int) ∧ m.length = l.length := by
  have hM : ((List.range l.length).map (fun i : Nat => mkExtent (a + 2 * (i : Int)))).length = l.length := marked_len _ _
  generalize hm : (List.range l.length).map (fun i : Nat => mkExtent (a + 2 * (i : Int))) = m at hM
  have hg : ∀ i, i < l.length → m.getD i z40 = mkExtent (a + 2 * (i : Int)) := fun i hi => by rw [← hm]; exact marked_get _ _ _ _ hi
  refine ⟨a + 2 * (l.length : Int), m, ?_, ?_, by omega, rfl, hM⟩
  · have loop : ∀ d i, l.length - i = d → i ≤ l.length → Ev (fun k => laws_markExtentS.l0 k (m.take i ++ l.drop i) (a + 2 * (i : Int)) (i : Int)) (a + 2 * (l.length : Int), m) := by
      intro d
      induction d with
      | zero =>
        intro i hd hi
        have : i = l.length := by omega
        subst this;refine Ev.step (fun k => by rw [laws_markExtentS.l0]) ?_;refine Ev.neg (by simp [hM]) (Ev.now' ?_);rw [List.drop_length, List.append_nil, List.take_of_length_le (by omega)]
      | succ d ih =>
        intro i hd hi
        have hL : (m.take i ++ l.drop i).length = l.length := by rw [List.length_append, List.length_take, List.length_drop]; omega
        have next := ih (i + 1) (by omega) (by omega);rw [take_succ_getD m i z40 (by omega), hg i (by omega), List.append_assoc, List.singleton_append] at next;refine Ev.step (fun k => by rw [laws_markExtentS.l0]) ?_
        have hb0 : 0 ≤ a + 2 * (i : Int) := by omega
        have hb1 : a + 2 * (i : Int) + 2 ≤ 1152921504606846976 := by omega
        have hn : a + 2 * ((i + 1 : Nat) : Int) = a + 2 * (i : Int) + 1 + 1 := by omega
        rw [hn] at next
        generalize a + 2 * (i : Int) = b at hb0 hb1 next ⊢
        unfold mkExtent at next;rw [w64 (x := b + 1) (by omega) (by omega), w64 (x := b + 1 + 1) (by omega) (by omega), w64 (x := (i : Int) + 1) (by omega) (by omega), Int.toNat_natCast];refine Ev.pos (by rw [hL]; omega) ?_;refine Ev.pos (by omega) ?_;refine Ev.bindc _ rfl ?_;simp only [rdiExtent, set_at m l i _ hM (by omega), set_at2 m l i _ _ hM (by omega), get_at m l i _ _ hM (by omega), get_at0 m l i _ hM (by omega)];exact next
    have := loop l.length 0 rfl (by omega);unfold laws_markExtentS.f
    simpa using this
  · have loop : ∀ d i, l.length - i = d → i ≤ l.length → Ev (fun k => laws_heldExtentS.l0 k m (a + 2 * (i : Int)) (i : Int)) (a + 2 * (l.length : Int)) := by
      intro d
      induction d with
      | zero =>
        intro i hd hi
        have : i = l.length := by omega
        subst this;refine Ev.step (fun k => by rw [laws_heldExtentS.l0]) ?_;exact Ev.neg (by rw [hM]; omega) (Ev.now _)
      | succ d ih =>
        intro i hd hi;have next := ih (i + 1) (by omega) (by omega);refine Ev.step (fun k => by rw [laws_heldExtentS.l0]) ?_
        have hr : rd_T40 m (i : Int) = mkExtent (a + 2 * (i : Int)) := by rw [rdiExtent, hg i (by omega)]
        have hb0 : 0 ≤ a + 2 * (i : Int) := by omega
        have hb1 : a + 2 * (i : Int) + 2 ≤ 1152921504606846976 := by omega
        have hn : a + 2 * ((i + 1 : Nat) : Int) = a + 2 * (i : Int) + 1 + 1 := by omega
        rw [hn] at next;rw [hr, hM]
        generalize a + 2 * (i : Int) = b at hb0 hb1 next ⊢
        rw [w64 (x := b + 1) (by omega) (by omega), w64 (x := b + 1 + 1) (by omega) (by omega), w64 (x := (i : Int) + 1) (by omega) (by omega)];refine Ev.pos (by omega) (Ev.pos (by omega) ?_);refine Ev.pos rfl ?_;refine Ev.pos rfl ?_;exact next
    have := loop l.length 0 rfl (by omega);unfold laws_heldExtentS.f
    simpa using this
end Go.Proofs.Ytpfimjgfojdhhaa.Q
