import Derived.Test.YtojdlcbmbpgplaaKit
import Derived.Test.YtojdlcbmbpgplaaG9
namespace Go.Proofs.Ytojdlcbmbpgplaa.Q
open Go.RowKit Go.Proofs.YtojdlcbmbpgplaaW.PrintWords Go.Proofs.Ytojdlcbmbpgplaa.G
set_option linter.unusedVariables false
set_option linter.unusedSimpArgs false

def mkPc (a : Int) : S48 := ⟨a, a + 1, a + 2, Int.tmod (a + 3) 3 == 0⟩
def markedPc (n : Nat) (a : Int) : List S48 := (List.range n).map (fun i : Nat => mkPc (a + 4 * (i : Int)))
theorem markedPc_length (n : Nat) (a : Int) : (markedPc n a).length = n := by simp [markedPc]
theorem markedPc_get (n : Nat) (a : Int) (i : Nat) (h : i < n) (z : S48) : (markedPc n a).getD i z = mkPc (a + 4 * (i : Int)) := by
  rw [getD_eq _ _ _ (by rw [markedPc_length]; exact h)]
  simp [markedPc]
theorem set_same {α : Type} (l : List α) (i : Nat) (x y : α) : (l.set i x).set i y = l.set i y := by simp
theorem markPieceS_ev (l : List S48) (a : Int) (h0 : 0 ≤ a) (h1 : a ≤ 1000000) (hl : l.length ≤ 1048576) : Ev (fun k => laws_markPieceS.f k l a) (a + 4 * (l.length : Int), markedPc l.length a) := by
  have key : ∀ d i, l.length - i = d → i ≤ l.length → Ev (fun k => laws_markPieceS.l0 k ((markedPc l.length a).take i ++ l.drop i) (a + 4 * (i : Int)) (i : Int)) (a + 4 * (l.length : Int), markedPc l.length a) := by
    intro d
    induction d with
    | zero =>
      intro i hd hi
      have : i = l.length := by omega
      subst this
      refine Ev.step (fun k => by rw [laws_markPieceS.l0]) ?_
      refine Ev.neg (by simp [markedPc_length]) (Ev.now' ?_)
      rw [List.drop_length, List.append_nil, List.take_of_length_le (by rw [markedPc_length]; exact Nat.le_refl _)]
    | succ d ih =>
      intro i hd hi
      have hlen : ((markedPc l.length a).take i).length = i := by rw [List.length_take, markedPc_length]; omega
      have hL : ((markedPc l.length a).take i ++ l.drop i).length = l.length := by rw [List.length_append, hlen, List.length_drop]; omega
      have hs : ∀ x : S48, ((markedPc l.length a).take i ++ l.drop i).set i x = (markedPc l.length a).take i ++ x :: l.drop (i + 1) := by
        intro x
        rw [List.set_append_right _ _ (by omega), hlen, Nat.sub_self, drop_getD l i z48 (by omega)]
        rfl
      have hg : ∀ x : S48, rd_T48 ((markedPc l.length a).take i ++ x :: l.drop (i + 1)) (i : Int) = x := by
        intro x
        unfold rd_T48
        rw [Int.toNat_natCast, List.getD_eq_getElem?_getD, List.getElem?_append_right (by omega), hlen, Nat.sub_self]
        rfl
      have hs2 : ∀ x y : S48, ((markedPc l.length a).take i ++ x :: l.drop (i + 1)).set i y = (markedPc l.length a).take i ++ y :: l.drop (i + 1) := by
        intro x y
        rw [List.set_append_right _ _ (by omega), hlen, Nat.sub_self]
        rfl
      refine Ev.step (fun k => by rw [laws_markPieceS.l0]) ?_
      refine Ev.pos (by omega) (Ev.pos (by omega) ?_)
      rw [w64 (x := a + 4 * (i : Int) + 1) (by omega) (by omega), w64 (x := a + 4 * (i : Int) + 1 + 1) (by omega) (by omega), w64 (x := a + 4 * (i : Int) + 1 + 1 + 1) (by omega) (by omega), w64 (x := a + 4 * (i : Int) + 1 + 1 + 1 + 1) (by omega) (by omega), w64 (x := (i : Int) + 1) (by omega) (by omega), Int.toNat_natCast, hs]
      refine Ev.bindc _ rfl ?_
      rw [hs2, hg]
      refine Ev.bindc _ rfl ?_
      rw [hs2, hg]
      refine Ev.bindc _ rfl ?_
      rw [hs2, hg]
      have next := ih (i + 1) (by omega) (by omega)
      rw [take_succ_getD _ i z48 (by rw [markedPc_length]; omega), markedPc_get _ _ _ (by omega), List.append_assoc, List.singleton_append] at next
      have e1 : a + 4 * (i : Int) + 1 + 1 + 1 + 1 = a + 4 * ((i + 1 : Nat) : Int) := by omega
      have e2 : (⟨a + 4 * (i : Int), a + 4 * (i : Int) + 1, a + 4 * (i : Int) + 1 + 1, Int.tmod (a + 4 * (i : Int) + 1 + 1 + 1) 3 == 0⟩ : S48) = mkPc (a + 4 * (i : Int)) := by
        unfold mkPc
        rw [show a + 4 * (i : Int) + 1 + 1 + 1 = a + 4 * (i : Int) + 3 by omega, show a + 4 * (i : Int) + 1 + 1 = a + 4 * (i : Int) + 2 by omega]
      rw [e1, e2]
      exact next
  unfold laws_markPieceS.f
  have := key l.length 0 rfl (by omega)
  simpa using this
theorem markFileMap_ev (l : List S48) (hl : l.length ≤ 1048576) : Ev (fun k => laws_markFileMap.f k l 1) (1 + 4 * (l.length : Int), markedPc l.length 1) := by
  unfold laws_markFileMap.f
  exact Ev.bind' _ (markPieceS_ev l 1 (by omega) (by omega) hl) (Ev.now _)
end Go.Proofs.Ytojdlcbmbpgplaa.Q
