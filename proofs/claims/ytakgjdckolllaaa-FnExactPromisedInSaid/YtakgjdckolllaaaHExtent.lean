/- Lemmas on the laws' own helpers, printed by a program of this session (gen_help.py). No statement. -/
import Derived.Test.YtakgjdckolllaaaHBase
import Derived.Test.YtakgjdckolllaaaG2
import Derived.Test.YtakgjdckolllaaaG3
namespace Go.Proofs.Ytakgjdckolllaaa.Q
open Go.RowKit Go.Proofs.YtakgjdckolllaaaW.PrintWords Go.Proofs.Ytakgjdckolllaaa.G
set_option linter.unusedVariables false
set_option linter.unusedSimpArgs false
theorem rdiExtent (l : List S53) (i : Nat) : rd_T53 l (i : Int) = l.getD i z53 := by simp [rd_T53]
theorem szExtentS_ev (l : List S50) (hl : l.length ≤ maxLen) (a : Int) (h0 : 0 ≤ a) (h1 : a ≤ 4611686018427387904) : ∃ r, Ev (fun k => laws_szExtentS.f l a) r ∧ (¬ r < 0 → 0 ≤ r ∧ r ≤ a ∧ (l.length : Int) ≤ a) := by
  unfold maxLen at hl
  unfold laws_szExtentS.f
  rw [w64 (x := a - (l.length : Int)) (by omega) (by omega)]
  exact szd fun h => ⟨_, Ev.now _, fun _ => by omega⟩
def convExtent (x : S50) : S53 := (⟨x.f0, x.f1⟩ : S53)
theorem toExtentS_ev (l : List S50) (h : l.length ≤ 1048576) : Ev (fun k => laws_toExtentS.f k l) (l.map convExtent) := by
  have loop : ∀ d i, l.length - i = d → i ≤ l.length → Ev (fun k => laws_toExtentS.l0 k l (((l.take i).map convExtent) ++ List.replicate (l.length - i) z53) (i : Int)) (l.map convExtent) := by
    intro d
    induction d with
    | zero =>
      intro i hd hi
      have : i = l.length := by omega
      subst this
      refine Ev.step (fun k => by rw [laws_toExtentS.l0]) ?_
      refine Ev.neg (by omega) (Ev.now' (by simp))
    | succ d ih =>
      intro i hd hi
      have next := ih (i + 1) (by omega) (by omega)
      have e : (((l.take i).map convExtent) ++ List.replicate (l.length - i) z53).set i (convExtent (l.getD i z50)) = ((l.take (i + 1)).map convExtent) ++ List.replicate (l.length - (i + 1)) z53 := by
        rw [take_succ_getD l i z50 (by omega), show l.length - i = (l.length - (i + 1)) + 1 by omega, List.replicate_succ, List.map_append, List.append_assoc, List.set_append_right _ _ (by simp; omega)]
        simp [Nat.min_eq_left hi]
      have next' : Ev (fun k => laws_toExtentS.l0 k l ((((l.take i).map convExtent) ++ List.replicate (l.length - i) z53).set i (convExtent (l.getD i z50))) ((i : Int) + 1)) (l.map convExtent) := by rw [e]; exact next
      refine Ev.step (fun k => by rw [laws_toExtentS.l0]) ?_
      rw [w64 (x := (i : Int) + 1) (by omega) (by omega)]
      exact Ev.pos (by omega) (Ev.pos (by omega) (Ev.bindc _ rfl (Ev.pos (by simp; omega) next')))
  unfold laws_toExtentS.f
  refine Ev.pos (by omega) (Ev.pos (by omega) ?_)
  have := loop l.length 0 rfl (by omega)
  simpa using this
theorem eqExtent_refl (x0 : Int) (x1 : Int) : laws_eqExtent.f x0 x1 x0 x1 = some true := by
  simp [laws_eqExtent.f]
theorem eqExtentS_refl (l : List S53) (h : l.length ≤ 4611686018427387904) : Ev (fun k => laws_eqExtentS.f k l l) true := by
  have loop : ∀ d i, l.length - i = d → i ≤ l.length → Ev (fun k => laws_eqExtentS.l0 k l l (i : Int)) true := by
    intro d
    induction d with
    | zero =>
      intro i hd hi
      have : i = l.length := by omega
      subst this
      exact Ev.step (fun k => by rw [laws_eqExtentS.l0]) (Ev.neg (by omega) (Ev.now _))
    | succ d ih =>
      intro i hd hi
      refine Ev.step (fun k => by rw [laws_eqExtentS.l0]) ?_
      rw [w64 (x := (i : Int) + 1) (by omega) (by omega)]
      refine Ev.pos (by omega) (Ev.pos (by omega) (Ev.pos (by omega) (Ev.bindc _ (eqExtent_refl _ _) (Ev.pos rfl ?_))))
      exact ih (i + 1) (by omega) (by omega)
  unfold laws_eqExtentS.f
  exact Ev.pos rfl (loop l.length 0 rfl (by omega))
end Go.Proofs.Ytakgjdckolllaaa.Q
