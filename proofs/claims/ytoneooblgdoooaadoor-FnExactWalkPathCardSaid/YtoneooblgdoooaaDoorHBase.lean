/- Lemmas on the laws' own helpers, printed by a program of this session (gen_help.py). No statement. -/
import Derived.Test.YtoneooblgdoooaaDoorKit
namespace Go.Proofs.YtoneooblgdoooaaDoor.Q
open Go.RowKit Go.Proofs.YtoneooblgdoooaaDoorW.PrintWords
set_option linter.unusedVariables false
set_option linter.unusedSimpArgs false

/-- One bound after another. -/
theorem szc {g : Nat → Option Int} {f : Nat → Int → Option Int} {P Q : Int → Prop} (h : ∃ r, Ev g r ∧ (¬ r < 0 → P r)) (k : ∀ t, ¬ t < 0 → P t → ∃ r, Ev (fun n => f n t) r ∧ (¬ r < 0 → Q r)) : ∃ r, Ev (fun n => (g n).bind fun t => if t < 0 then some (-1) else f n t) r ∧ (¬ r < 0 → Q r) := by
  obtain ⟨t, h1, h2⟩ := h
  by_cases ht : t < 0
  · exact ⟨-1, Ev.bind' t h1 (Ev.pos ht (Ev.now _)), fun h => absurd (by decide) h⟩
  · obtain ⟨r, h3, h4⟩ := k t ht (h2 ht)
    exact ⟨r, Ev.bind' t h1 (Ev.neg ht h3), h4⟩
theorem szd {x : Int} {f : Nat → Option Int} {Q : Int → Prop} (k : ¬ x < 0 → ∃ r, Ev f r ∧ (¬ r < 0 → Q r)) : ∃ r, Ev (fun n => if x < 0 then some (-1) else f n) r ∧ (¬ r < 0 → Q r) := by
  by_cases ht : x < 0
  · exact ⟨-1, Ev.pos ht (Ev.now _), fun h => absurd (by decide) h⟩
  · obtain ⟨r, h3, h4⟩ := k ht
    exact ⟨r, Ev.neg ht h3, h4⟩
theorem heldc {g : Nat → Option Int} {f : Nat → Int → Option Int} {t r : Int} (h : Ev g t) (ht : 0 ≤ t) (k : Ev (fun n => f n t) r) : Ev (fun n => (g n).bind fun t => if t < 0 then some (-1) else f n t) r := Ev.bind' t h (Ev.neg (by omega) k)
theorem rdw_int (l : List Int) (i : Nat) : rd l (i : Int) = l.getD i 0 := by simp [rd]
theorem rdw_of {α : Type} (z : α) (l : List α) (i : Nat) : rdOf z l (i : Int) = l.getD i z := by simp [rdOf]
theorem str_size (xs : List Int) : (strOfNums xs).size = xs.length := by simp [strOfNums, ByteArray.size]
theorem marked_len {α : Type} (n : Nat) (f : Nat → α) : ((List.range n).map f).length = n := by simp
theorem marked_get {α : Type} (n i : Nat) (f : Nat → α) (z : α) (h : i < n) : ((List.range n).map f).getD i z = f i := by simp [List.getD_eq_getElem?_getD, h]
theorem set_at {α : Type} (m l : List α) (i : Nat) (x : α) (hm : m.length = l.length) (hi : i < l.length) : (m.take i ++ l.drop i).set i x = m.take i ++ x :: l.drop (i + 1) := by
  have hlen : (m.take i).length = i := by rw [List.length_take]; omega
  rw [List.set_append_right _ _ (by omega), hlen, Nat.sub_self, List.drop_eq_getElem_cons hi]
  rfl
theorem set_at2 {α : Type} (m l : List α) (i : Nat) (x y : α) (hm : m.length = l.length) (hi : i < l.length) : (m.take i ++ x :: l.drop (i + 1)).set i y = m.take i ++ y :: l.drop (i + 1) := by
  have hlen : (m.take i).length = i := by rw [List.length_take]; omega
  rw [List.set_append_right _ _ (by omega), hlen, Nat.sub_self]
  rfl
theorem get_at {α : Type} (m l : List α) (i : Nat) (x z : α) (hm : m.length = l.length) (hi : i < l.length) : (m.take i ++ x :: l.drop (i + 1)).getD i z = x := by
  have hlen : (m.take i).length = i := by rw [List.length_take]; omega
  rw [List.getD_eq_getElem?_getD, List.getElem?_append_right (by omega), hlen, Nat.sub_self]
  rfl
theorem get_at0 {α : Type} (m l : List α) (i : Nat) (z : α) (hm : m.length = l.length) (hi : i < l.length) : (m.take i ++ l.drop i).getD i z = l.getD i z := by
  have hlen : (m.take i).length = i := by rw [List.length_take]; omega
  rw [List.getD_eq_getElem?_getD, List.getD_eq_getElem?_getD, List.getElem?_append_right (by omega), hlen, Nat.sub_self, List.getElem?_drop, Nat.add_zero]
end Go.Proofs.YtoneooblgdoooaaDoor.Q
