/- Names compared by their bytes: a strict weak order. No statement. -/
import Derived.Lib.Bytealg
import Derived.Shelf.SlSortCmp.NoneTotal
import Derived.Test.YtfbjeppfnlfejaaDoorStrLeq
namespace Go.Proofs.YtfbjeppfnlfejaaDoor.NmC
theorem cmp_lt : ∀ x y : List UInt8, Lib.compareBytes x y < 0 ↔ Op.bytesLess x y = true
  | [], [] => by decide
  | [], _ :: _ => by simp [Lib.compareBytes, Op.bytesLess]
  | _ :: _, [] => by simp [Lib.compareBytes, Op.bytesLess]
  | a :: x, b :: y => by
    have ih := cmp_lt x y
    unfold Lib.compareBytes Op.bytesLess
    by_cases l : a < b
    · rw [if_pos l]; simp [l]
    · rw [if_neg l]
      by_cases m : b < a
      · rw [if_pos m]
        have : ¬ a = b := fun q => by subst q; exact l m
        simp [l, this]
      · rw [if_neg m, ih]
        have e : a = b := by
          by_cases q : a = b
          · exact q
          · rcases UInt8.lt_or_lt_of_ne q with h | h
            · exact absurd h l
            · exact absurd h m
        subst e
        simp [l]
theorem less_trans : ∀ x y z : List UInt8, Op.bytesLess x y = true → Op.bytesLess y z = true → Op.bytesLess x z = true
  | [], [], z, h, _ => by simp [Op.bytesLess] at h
  | [], _ :: _, [], _, h => by simp [Op.bytesLess] at h
  | [], _ :: _, _ :: _, _, _ => by simp [Op.bytesLess]
  | _ :: _, [], _, h, _ => by simp [Op.bytesLess] at h
  | _ :: _, _ :: _, [], _, h => by simp [Op.bytesLess] at h
  | a :: x, b :: y, c :: z, h1, h2 => by
    have ih := less_trans x y z
    unfold Op.bytesLess at h1 h2 ⊢
    simp only [Bool.or_eq_true, decide_eq_true_iff, Bool.and_eq_true, beq_iff_eq] at h1 h2 ⊢
    rcases h1 with h1 | ⟨h1, h1'⟩
    · rcases h2 with h2 | ⟨h2, h2'⟩
      · exact Or.inl (UInt8.lt_trans h1 h2)
      · subst h2; exact Or.inl h1
    · subst h1
      rcases h2 with h2 | ⟨h2, h2'⟩
      · exact Or.inl h2
      · exact Or.inr ⟨h2, ih h1' h2'⟩
theorem less_irrefl (x : List UInt8) : Op.bytesLess x x = false := by
  have h := less_total x x
  cases e : Op.bytesLess x x with
  | false => rfl
  | true => rw [e] at h; simp at h
theorem not_less_trans (x y z : List UInt8) (h1 : Op.bytesLess x y = false) (h2 : Op.bytesLess y z = false) : Op.bytesLess x z = false := by
  cases e : Op.bytesLess x z with
  | false => rfl
  | true =>
    have h3 := less_total y x
    rw [h1, Bool.not_false, Bool.or_eq_true] at h3
    rcases h3 with h3 | h3
    · rw [less_trans y x z h3 e] at h2; exact h2
    · rw [beq_iff_eq] at h3
      rw [h3] at h2
      rw [e] at h2; exact h2
end Go.Proofs.YtfbjeppfnlfejaaDoor.NmC
