/- Lemmas on the laws' own helpers, printed by a program of this session (gen_help.py). No statement. -/
import Derived.Test.YtnjnlocndalpjaaDoorHBase
import Derived.Test.YtnjnlocndalpjaaDoorG1
import Derived.Test.YtnjnlocndalpjaaDoorG3
import Derived.Test.YtnjnlocndalpjaaDoorG4
namespace Go.Proofs.YtnjnlocndalpjaaDoor.Q
open Go.RowKit Go.Proofs.YtnjnlocndalpjaaDoorW.PrintWords Go.Proofs.YtnjnlocndalpjaaDoor.G
set_option linter.unusedVariables false
set_option linter.unusedSimpArgs false
theorem szIntS_ev (l : List Int) (hl : l.length ≤ maxLen) (a : Int) (h0 : 0 ≤ a) (h1 : a ≤ 4611686018427387904) : ∃ r, Ev (fun k => laws_szIntS.f l a) r ∧ (¬ r < 0 → 0 ≤ r ∧ r ≤ a ∧ (l.length : Int) ≤ a) := by
  unfold maxLen at hl
  unfold laws_szIntS.f
  rw [w64 (x := a - (l.length : Int)) (by omega) (by omega)]
  exact szd fun h => ⟨_, Ev.now _, fun _ => by omega⟩
theorem toIntS_ev (l : List Int) (h : l.length ≤ 1048576) : Ev (fun k => laws_toIntS.f k l) l := by
  have loop : ∀ d i, l.length - i = d → i ≤ l.length → Ev (fun k => laws_toIntS.l0 k l ((l.take i) ++ List.replicate (l.length - i) (0 : Int)) (i : Int)) l := by
    intro d
    induction d with
    | zero =>
      intro i hd hi
      have : i = l.length := by omega
      subst this
      refine Ev.step (fun k => by rw [laws_toIntS.l0]) ?_
      refine Ev.neg (by omega) (Ev.now' (by simp))
    | succ d ih =>
      intro i hd hi
      have next := ih (i + 1) (by omega) (by omega)
      have e : ((l.take i) ++ List.replicate (l.length - i) (0 : Int)).set i (l.getD i (0 : Int)) = (l.take (i + 1)) ++ List.replicate (l.length - (i + 1)) (0 : Int) := by
        rw [take_succ_getD l i (0 : Int) (by omega), show l.length - i = (l.length - (i + 1)) + 1 by omega, List.replicate_succ, List.append_assoc, List.set_append_right _ _ (by simp; omega)]
        simp [Nat.min_eq_left hi]
      have next' : Ev (fun k => laws_toIntS.l0 k l (((l.take i) ++ List.replicate (l.length - i) (0 : Int)).set i (l.getD i (0 : Int))) ((i : Int) + 1)) l := by rw [e]; exact next
      refine Ev.step (fun k => by rw [laws_toIntS.l0]) ?_
      rw [w64 (x := (i : Int) + 1) (by omega) (by omega)]
      exact Ev.pos (by omega) (Ev.pos (by omega) (Ev.pos (by simp; omega) next'))
  unfold laws_toIntS.f
  refine Ev.pos (by omega) (Ev.pos (by omega) ?_)
  have := loop l.length 0 rfl (by omega)
  simpa using this
theorem eqIntS_refl (l : List Int) (h : l.length ≤ 4611686018427387904) : Ev (fun k => laws_eqIntS.f k l l) true := by
  have loop : ∀ d i, l.length - i = d → i ≤ l.length → Ev (fun k => laws_eqIntS.l0 k l l (i : Int)) true := by
    intro d
    induction d with
    | zero =>
      intro i hd hi
      have : i = l.length := by omega
      subst this
      exact Ev.step (fun k => by rw [laws_eqIntS.l0]) (Ev.neg (by omega) (Ev.now _))
    | succ d ih =>
      intro i hd hi
      refine Ev.step (fun k => by rw [laws_eqIntS.l0]) ?_
      rw [w64 (x := (i : Int) + 1) (by omega) (by omega)]
      refine Ev.pos (by omega) (Ev.pos (by omega) (Ev.pos (by omega) (Ev.pos rfl ?_)))
      exact ih (i + 1) (by omega) (by omega)
  unfold laws_eqIntS.f
  exact Ev.pos rfl (loop l.length 0 rfl (by omega))
end Go.Proofs.YtnjnlocndalpjaaDoor.Q
