import Derived.Test.YtojdlcbmbpgplaaKit
import Derived.Test.YtojdlcbmbpgplaaG3
import Derived.Test.YtojdlcbmbpgplaaG5
import Derived.Test.YtojdlcbmbpgplaaG7
namespace Go.Proofs.Ytojdlcbmbpgplaa.Q
open Go.RowKit Go.Proofs.YtojdlcbmbpgplaaW.PrintWords Go.Proofs.Ytojdlcbmbpgplaa.G
set_option linter.unusedVariables false
set_option linter.unusedSimpArgs false

def toPiece (p : S45) : S48 := ⟨p.f0, p.f1, p.f2, p.f3⟩
theorem szFileMap_eq (l : List S45) (h : l.length ≤ maxLen) : laws_szFileMap.f l 1048576 = some (if 1048576 - (l.length : Int) < 0 then -1 else 1048576 - (l.length : Int)) := by
  unfold maxLen at h
  unfold laws_szFileMap.f laws_szPieceS.f
  rw [w64 (by omega) (by omega)]
  split
  · simp
  · simp only [Option.bind_some]
    rw [if_neg (by omega)]

theorem toPieceS_ev (l : List S45) (h : l.length ≤ 1048576) : Ev (fun k => laws_toPieceS.f k l) (l.map toPiece) := by
  have loop : ∀ d i, l.length - i = d → i ≤ l.length → Ev (fun k => laws_toPieceS.l0 k l ((l.take i).map toPiece ++ List.replicate (l.length - i) z48) (i : Int)) (l.map toPiece) := by
    intro d
    induction d with
    | zero =>
      intro i hd hi
      have : i = l.length := by omega
      subst this
      refine Ev.step (fun k => by rw [laws_toPieceS.l0]) ?_
      refine Ev.neg (by omega) (Ev.now' (by simp))
    | succ d ih =>
      intro i hd hi
      refine Ev.step (fun k => by rw [laws_toPieceS.l0]) ?_
      refine Ev.pos (by omega) (Ev.pos (by omega) (Ev.bindc _ rfl (Ev.pos (by simp; omega) ?_)))
      have := ih (i + 1) (by omega) (by omega)
      rw [w64 (by omega) (by omega)]
      have e : ((l.take i).map toPiece ++ List.replicate (l.length - i) z48).set (i : Int).toNat ⟨(rd_T45 l i).f0, (rd_T45 l i).f1, (rd_T45 l i).f2, (rd_T45 l i).f3⟩ = (l.take (i + 1)).map toPiece ++ List.replicate (l.length - (i + 1)) z48 := by
        rw [take_succ_getD l i z45 (by omega), show l.length - i = (l.length - (i + 1)) + 1 by omega, List.replicate_succ, List.map_append, List.append_assoc, Int.toNat_natCast, List.set_append_right _ _ (by simp; omega)]
        simp [Nat.min_eq_left hi, rd_T45, toPiece]
      rw [e]
      exact this
  unfold laws_toPieceS.f
  refine Ev.pos (by omega) (Ev.pos (by omega) ?_)
  have := loop l.length 0 rfl (by omega)
  simpa using this
theorem toFileMap_ev (l : List S45) (h : l.length ≤ 1048576) : Ev (fun k => laws_toFileMap.f k l) (l.map toPiece) := by
  unfold laws_toFileMap.f
  exact Ev.bind' _ (toPieceS_ev l h) (Ev.now _)

theorem eqPiece_eq (a b : S48) : laws_eqPiece.f a.f0 a.f1 a.f2 a.f3 b.f0 b.f1 b.f2 b.f3 = some (decide (a = b)) := by
  cases a; cases b
  unfold laws_eqPiece.f
  simp only [S48.mk.injEq]
  repeat' split
  all_goals simp_all
theorem eqPieceS_ev (a b : List S48) (h : a.length ≤ 1048576) : Ev (fun k => laws_eqPieceS.f k a b) (decide (a = b)) := by
  unfold laws_eqPieceS.f
  by_cases hl : a.length = b.length
  · refine Ev.pos (by omega) ?_
    have loop : ∀ d i, a.length - i = d → i ≤ a.length → a.take i = b.take i → Ev (fun k => laws_eqPieceS.l0 k a b (i : Int)) (decide (a = b)) := by
      intro d
      induction d with
      | zero =>
        intro i hd hi ht
        have : i = a.length := by omega
        subst this
        refine Ev.step (fun k => by rw [laws_eqPieceS.l0]) ?_
        refine Ev.neg (by omega) (Ev.now' ?_)
        rw [List.take_length, hl, List.take_length] at ht
        simp [ht]
      | succ d ih =>
        intro i hd hi ht
        refine Ev.step (fun k => by rw [laws_eqPieceS.l0]) ?_
        refine Ev.pos (by omega) (Ev.pos (by omega) (Ev.pos (by omega) (Ev.bindc _ (eqPiece_eq _ _) ?_)))
        have e1 : rd_T48 a i = a.getD i z48 := by simp [rd_T48]
        have e2 : rd_T48 b i = b.getD i z48 := by simp [rd_T48]
        by_cases he : a.getD i z48 = b.getD i z48
        · refine Ev.pos (by rw [e1, e2, he]; simp) ?_
          rw [w64 (by omega) (by omega)]
          exact ih (i + 1) (by omega) (by omega) (by rw [take_succ_getD a i z48 (by omega), take_succ_getD b i z48 (by omega), ht, he])
        · refine Ev.neg (by rw [e1, e2]; simpa using he) (Ev.now' ?_)
          have : a ≠ b := fun e => he (by rw [e])
          simp [this]
    exact loop a.length 0 rfl (by omega) (by simp)
  · refine Ev.neg (by omega) (Ev.now' ?_)
    have : a ≠ b := fun e => hl (by rw [e])
    simp [this]
theorem eqFileMap_ev (a b : List S48) (h : a.length ≤ 1048576) : Ev (fun k => laws_eqFileMap.f k a b) (decide (a = b)) := by
  unfold laws_eqFileMap.f
  refine Ev.bind' _ (eqPieceS_ev a b h) ?_
  by_cases e : a = b
  · exact Ev.pos (by simpa using e) (Ev.now' (by simp [e]))
  · exact Ev.neg (by simpa using e) (Ev.now' (by simp [e]))
end Go.Proofs.Ytojdlcbmbpgplaa.Q
