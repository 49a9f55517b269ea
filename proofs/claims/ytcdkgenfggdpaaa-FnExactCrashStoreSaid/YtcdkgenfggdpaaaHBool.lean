/- Lemmas on the laws' own helpers, printed by a program of this session (gen_help.py). No statement. -/
import Derived.Test.YtcdkgenfggdpaaaHBase
import Derived.Test.YtcdkgenfggdpaaaG25
namespace Go.Proofs.Ytcdkgenfggdpaaa.Q
open Go.RowKit Go.Proofs.YtcdkgenfggdpaaaW.PrintWords Go.Proofs.Ytcdkgenfggdpaaa.G
set_option linter.unusedVariables false
set_option linter.unusedSimpArgs false
theorem toBoolS_ev (l : List Bool) (h : l.length ≤ 1048576) : Ev (fun k => laws_toBoolS.f k l) l := by
  have loop : ∀ d i, l.length - i = d → i ≤ l.length → Ev (fun k => laws_toBoolS.l0 k l ((l.take i) ++ List.replicate (l.length - i) false) (i : Int)) l := by
    intro d
    induction d with
    | zero =>
      intro i hd hi
      have : i = l.length := by omega
      subst this
      refine Ev.step (fun k => by rw [laws_toBoolS.l0]) ?_
      refine Ev.neg (by omega) (Ev.now' (by simp))
    | succ d ih =>
      intro i hd hi
      have next := ih (i + 1) (by omega) (by omega)
      have e : ((l.take i) ++ List.replicate (l.length - i) false).set i (l.getD i false) = (l.take (i + 1)) ++ List.replicate (l.length - (i + 1)) false := by
        rw [take_succ_getD l i false (by omega), show l.length - i = (l.length - (i + 1)) + 1 by omega, List.replicate_succ, List.append_assoc, List.set_append_right _ _ (by simp; omega)]
        simp [Nat.min_eq_left hi]
      have next' : Ev (fun k => laws_toBoolS.l0 k l (((l.take i) ++ List.replicate (l.length - i) false).set i (l.getD i false)) ((i : Int) + 1)) l := by rw [e]; exact next
      refine Ev.step (fun k => by rw [laws_toBoolS.l0]) ?_
      rw [w64 (x := (i : Int) + 1) (by omega) (by omega)]
      exact Ev.pos (by omega) (Ev.pos (by omega) (Ev.pos (by simp; omega) next'))
  unfold laws_toBoolS.f
  refine Ev.pos (by omega) (Ev.pos (by omega) ?_)
  have := loop l.length 0 rfl (by omega)
  simpa using this
theorem eqBoolS_refl (l : List Bool) (h : l.length ≤ 4611686018427387904) : Ev (fun k => laws_eqBoolS.f k l l) true := by
  have loop : ∀ d i, l.length - i = d → i ≤ l.length → Ev (fun k => laws_eqBoolS.l0 k l l (i : Int)) true := by
    intro d
    induction d with
    | zero =>
      intro i hd hi
      have : i = l.length := by omega
      subst this
      exact Ev.step (fun k => by rw [laws_eqBoolS.l0]) (Ev.neg (by omega) (Ev.now _))
    | succ d ih =>
      intro i hd hi
      refine Ev.step (fun k => by rw [laws_eqBoolS.l0]) ?_
      rw [w64 (x := (i : Int) + 1) (by omega) (by omega)]
      refine Ev.pos (by omega) (Ev.pos (by omega) (Ev.pos (by omega) (Ev.neg (by simp) ?_)))
      exact ih (i + 1) (by omega) (by omega)
  unfold laws_eqBoolS.f
  exact Ev.pos rfl (loop l.length 0 rfl (by omega))
/-- The element that a mark leaves. -/
def mkBool (a : Int) : Bool := (Int.tmod (a) 3 == 0)
theorem markBoolS_ev (l : List Bool) (a : Int) (h0 : 0 ≤ a) (h1 : a + 1 * (l.length : Int) ≤ 1152921504606846976) : ∃ (q : Int) (m : List Bool), Ev (fun k => laws_markBoolS.f k l a) (q, m) ∧ True ∧ a ≤ q ∧ q = a + 1 * (l.length : Int) ∧ m.length = l.length := by
  have hM : ((List.range l.length).map (fun i : Nat => mkBool (a + 1 * (i : Int)))).length = l.length := marked_len _ _
  generalize hm : (List.range l.length).map (fun i : Nat => mkBool (a + 1 * (i : Int))) = m at hM
  have hg : ∀ i, i < l.length → m.getD i false = mkBool (a + 1 * (i : Int)) := fun i hi => by rw [← hm]; exact marked_get _ _ _ _ hi
  refine ⟨a + 1 * (l.length : Int), m, ?_, ?_, by omega, rfl, hM⟩
  · have loop : ∀ d i, l.length - i = d → i ≤ l.length → Ev (fun k => laws_markBoolS.l0 k (m.take i ++ l.drop i) (a + 1 * (i : Int)) (i : Int)) (a + 1 * (l.length : Int), m) := by
      intro d
      induction d with
      | zero =>
        intro i hd hi
        have : i = l.length := by omega
        subst this
        refine Ev.step (fun k => by rw [laws_markBoolS.l0]) ?_
        refine Ev.neg (by simp [hM]) (Ev.now' ?_)
        rw [List.drop_length, List.append_nil, List.take_of_length_le (by omega)]
      | succ d ih =>
        intro i hd hi
        have hL : (m.take i ++ l.drop i).length = l.length := by rw [List.length_append, List.length_take, List.length_drop]; omega
        have next := ih (i + 1) (by omega) (by omega)
        rw [take_succ_getD m i false (by omega), hg i (by omega), List.append_assoc, List.singleton_append] at next
        refine Ev.step (fun k => by rw [laws_markBoolS.l0]) ?_
        have hb0 : 0 ≤ a + 1 * (i : Int) := by omega
        have hb1 : a + 1 * (i : Int) + 1 ≤ 1152921504606846976 := by omega
        have hn : a + 1 * ((i + 1 : Nat) : Int) = a + 1 * (i : Int) + 1 := by omega
        rw [hn] at next
        generalize a + 1 * (i : Int) = b at hb0 hb1 next ⊢
        unfold mkBool at next
        rw [w64 (x := b + 1) (by omega) (by omega), w64 (x := (i : Int) + 1) (by omega) (by omega), Int.toNat_natCast]
        refine Ev.pos (by rw [hL]; omega) ?_
        refine Ev.pos (by omega) ?_
        simp only [set_at m l i _ hM (by omega), set_at2 m l i _ _ hM (by omega), get_at m l i _ _ hM (by omega), get_at0 m l i _ hM (by omega)]
        exact next
    have := loop l.length 0 rfl (by omega)
    unfold laws_markBoolS.f
    simpa using this
  · trivial
end Go.Proofs.Ytcdkgenfggdpaaa.Q
