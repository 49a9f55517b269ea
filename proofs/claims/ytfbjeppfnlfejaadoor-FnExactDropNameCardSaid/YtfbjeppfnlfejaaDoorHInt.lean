/- Lemmas on the laws' own helpers, printed by a program of this session (gen_help.py). No statement. -/
import Derived.Test.YtfbjeppfnlfejaaDoorHBase
import Derived.Test.YtfbjeppfnlfejaaDoorG1
import Derived.Test.YtfbjeppfnlfejaaDoorG3
import Derived.Test.YtfbjeppfnlfejaaDoorG5
namespace Go.Proofs.YtfbjeppfnlfejaaDoor.Q
open Go.RowKit Go.Proofs.YtfbjeppfnlfejaaDoorW.PrintWords Go.Proofs.YtfbjeppfnlfejaaDoor.G
set_option linter.unusedVariables false
set_option linter.unusedSimpArgs false
theorem szIntS_ev (l : List Int) (hl : l.length ≤ maxLen) (a : Int) (h0 : 0 ≤ a) (h1 : a ≤ 4611686018427387904) : ∃ r, Ev (fun k => laws_szIntS.f l a) r ∧ (¬ r < 0 → 0 ≤ r ∧ r ≤ a ∧ (l.length : Int) ≤ a) := by
  unfold maxLen at hl
  unfold laws_szIntS.f
  rw [w64 (x := a - (l.length : Int)) (by omega) (by omega)]
  exact szd fun h => ⟨_, Ev.now _, fun _ => by omega⟩
theorem toIntS_ev (l : List Int) (h : l.length ≤ 1048576) : Ev (fun k => laws_toIntS.f k l) l := by
  have loop : ∀ d i, l.length - i = d → i ≤ l.length → Ev (fun k => laws_toIntS.l0 k l ((l.take i) ++ List.replicate (l.length - i) (0 : Int)) (i : Int)) l := by
    intro d
    induction d with
    | zero =>
      intro i hd hi
      have : i = l.length := by omega
      subst this
      refine Ev.step (fun k => by rw [laws_toIntS.l0]) ?_
      refine Ev.neg (by omega) (Ev.now' (by simp))
    | succ d ih =>
      intro i hd hi
      have next := ih (i + 1) (by omega) (by omega)
      have e : ((l.take i) ++ List.replicate (l.length - i) (0 : Int)).set i (l.getD i (0 : Int)) = (l.take (i + 1)) ++ List.replicate (l.length - (i + 1)) (0 : Int) := by
        rw [take_succ_getD l i (0 : Int) (by omega), show l.length - i = (l.length - (i + 1)) + 1 by omega, List.replicate_succ, List.append_assoc, List.set_append_right _ _ (by simp; omega)]
        simp [Nat.min_eq_left hi]
      have next' : Ev (fun k => laws_toIntS.l0 k l (((l.take i) ++ List.replicate (l.length - i) (0 : Int)).set i (l.getD i (0 : Int))) ((i : Int) + 1)) l := by rw [e]; exact next
      refine Ev.step (fun k => by rw [laws_toIntS.l0]) ?_
      rw [w64 (x := (i : Int) + 1) (by omega) (by omega)]
      exact Ev.pos (by omega) (Ev.pos (by omega) (Ev.pos (by simp; omega) next'))
  unfold laws_toIntS.f
  refine Ev.pos (by omega) (Ev.pos (by omega) ?_)
  have := loop l.length 0 rfl (by omega)
  simpa using this
theorem eqIntS_refl (l : List Int) (h : l.length ≤ 4611686018427387904) : Ev (fun k => laws_eqIntS.f k l l) true := by
  have loop : ∀ d i, l.length - i = d → i ≤ l.length → Ev (fun k => laws_eqIntS.l0 k l l (i : Int)) true := by
    intro d
    induction d with
    | zero =>
      intro i hd hi
      have : i = l.length := by omega
      subst this
      exact Ev.step (fun k => by rw [laws_eqIntS.l0]) (Ev.neg (by omega) (Ev.now _))
    | succ d ih =>
      intro i hd hi
      refine Ev.step (fun k => by rw [laws_eqIntS.l0]) ?_
      rw [w64 (x := (i : Int) + 1) (by omega) (by omega)]
      refine Ev.pos (by omega) (Ev.pos (by omega) (Ev.pos (by omega) (Ev.pos rfl ?_)))
      exact ih (i + 1) (by omega) (by omega)
  unfold laws_eqIntS.f
  exact Ev.pos rfl (loop l.length 0 rfl (by omega))
/-- The element that a mark leaves. -/
def mkInt (a : Int) : Int := a
theorem markIntS_ev (l : List Int) (a : Int) (h0 : 0 ≤ a) (h1 : a + 1 * (l.length : Int) ≤ 1152921504606846976) : ∃ (q : Int) (m : List Int), Ev (fun k => laws_markIntS.f k l a) (q, m) ∧ Ev (fun k => laws_heldIntS.f k m a) q ∧ a ≤ q ∧ q = a + 1 * (l.length : Int) ∧ m.length = l.length := by
  have hM : ((List.range l.length).map (fun i : Nat => mkInt (a + 1 * (i : Int)))).length = l.length := marked_len _ _
  generalize hm : (List.range l.length).map (fun i : Nat => mkInt (a + 1 * (i : Int))) = m at hM
  have hg : ∀ i, i < l.length → m.getD i (0 : Int) = mkInt (a + 1 * (i : Int)) := fun i hi => by rw [← hm]; exact marked_get _ _ _ _ hi
  refine ⟨a + 1 * (l.length : Int), m, ?_, ?_, by omega, rfl, hM⟩
  · have loop : ∀ d i, l.length - i = d → i ≤ l.length → Ev (fun k => laws_markIntS.l0 k (m.take i ++ l.drop i) (a + 1 * (i : Int)) (i : Int)) (a + 1 * (l.length : Int), m) := by
      intro d
      induction d with
      | zero =>
        intro i hd hi
        have : i = l.length := by omega
        subst this
        refine Ev.step (fun k => by rw [laws_markIntS.l0]) ?_
        refine Ev.neg (by simp [hM]) (Ev.now' ?_)
        rw [List.drop_length, List.append_nil, List.take_of_length_le (by omega)]
      | succ d ih =>
        intro i hd hi
        have hL : (m.take i ++ l.drop i).length = l.length := by rw [List.length_append, List.length_take, List.length_drop]; omega
        have next := ih (i + 1) (by omega) (by omega)
        rw [take_succ_getD m i (0 : Int) (by omega), hg i (by omega), List.append_assoc, List.singleton_append] at next
        refine Ev.step (fun k => by rw [laws_markIntS.l0]) ?_
        have hb0 : 0 ≤ a + 1 * (i : Int) := by omega
        have hb1 : a + 1 * (i : Int) + 1 ≤ 1152921504606846976 := by omega
        have hn : a + 1 * ((i + 1 : Nat) : Int) = a + 1 * (i : Int) + 1 := by omega
        rw [hn] at next
        generalize a + 1 * (i : Int) = b at hb0 hb1 next ⊢
        unfold mkInt at next
        rw [w64 (x := b + 1) (by omega) (by omega), w64 (x := (i : Int) + 1) (by omega) (by omega), Int.toNat_natCast]
        refine Ev.pos (by rw [hL]; omega) ?_
        refine Ev.pos (by omega) ?_
        simp only [set_at m l i _ hM (by omega), set_at2 m l i _ _ hM (by omega), get_at m l i _ _ hM (by omega), get_at0 m l i _ hM (by omega)]
        exact next
    have := loop l.length 0 rfl (by omega)
    unfold laws_markIntS.f
    simpa using this
  · have loop : ∀ d i, l.length - i = d → i ≤ l.length → Ev (fun k => laws_heldIntS.l0 k m (a + 1 * (i : Int)) (i : Int)) (a + 1 * (l.length : Int)) := by
      intro d
      induction d with
      | zero =>
        intro i hd hi
        have : i = l.length := by omega
        subst this
        refine Ev.step (fun k => by rw [laws_heldIntS.l0]) ?_
        exact Ev.neg (by rw [hM]; omega) (Ev.now _)
      | succ d ih =>
        intro i hd hi
        have next := ih (i + 1) (by omega) (by omega)
        refine Ev.step (fun k => by rw [laws_heldIntS.l0]) ?_
        have hr : rd m (i : Int) = mkInt (a + 1 * (i : Int)) := by rw [rdw_int, hg i (by omega)]
        have hb0 : 0 ≤ a + 1 * (i : Int) := by omega
        have hb1 : a + 1 * (i : Int) + 1 ≤ 1152921504606846976 := by omega
        have hn : a + 1 * ((i + 1 : Nat) : Int) = a + 1 * (i : Int) + 1 := by omega
        rw [hn] at next
        rw [hr, hM]
        generalize a + 1 * (i : Int) = b at hb0 hb1 next ⊢
        rw [w64 (x := b + 1) (by omega) (by omega), w64 (x := (i : Int) + 1) (by omega) (by omega)]
        refine Ev.pos (by omega) (Ev.pos (by omega) ?_)
        refine Ev.pos rfl ?_
        exact next
    have := loop l.length 0 rfl (by omega)
    unfold laws_heldIntS.f
    simpa using this
end Go.Proofs.YtfbjeppfnlfejaaDoor.Q
