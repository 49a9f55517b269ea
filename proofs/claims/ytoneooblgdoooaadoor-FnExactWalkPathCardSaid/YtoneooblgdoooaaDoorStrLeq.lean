/- Strings at <=, > and >=, as the print tells them. No statement. -/
import Derived.Laws.Strings
namespace Go
theorem less_total : ∀ x y : List UInt8, (Op.bytesLess x y || x == y) = !(Op.bytesLess y x)
  | [], [] => rfl
  | [], _ :: _ => rfl
  | _ :: _, [] => rfl
  | a :: x, b :: y => by
    have ih := less_total x y
    have e : ((a :: x) == (b :: y)) = (a == b && x == y) := rfl
    rw [e]
    unfold Op.bytesLess
    by_cases h : a = b
    · subst h
      have n : ¬ a < a := UInt8.lt_irrefl a
      simp only [n, decide_false, Bool.false_or, beq_self_eq_true, Bool.true_and]
      exact ih
    · have e1 : (a == b) = false := by simpa using h
      have e2 : (b == a) = false := by simpa using fun q => h q.symm
      rw [e1, e2, Bool.false_and, Bool.false_and, Bool.or_false, Bool.or_false, Bool.false_and, Bool.or_false]
      by_cases l : a < b
      · have n : ¬ b < a := UInt8.lt_asymm l
        simp [l, n]
      · have n : b < a := by
          rcases UInt8.lt_or_lt_of_ne h with q | q
          · exact absurd q l
          · exact q
        simp [l, n]
@[go_sem] theorem binOp_string_leq' (t : TypeId) (a b : ByteArray) : binOp .leq t (.string a) (.string b) = pure (.bool (!(Op.bytesLess b.toList a.toList))) := by
  rw [← less_total]
  simp [binOp, Op.stringOp]
@[go_sem] theorem binOp_string_gtr' (t : TypeId) (a b : ByteArray) : binOp .gtr t (.string a) (.string b) = pure (.bool (Op.bytesLess b.toList a.toList)) := by
  have e := less_total a.toList b.toList
  have : (Op.bytesLess b.toList a.toList) = !(Op.bytesLess a.toList b.toList || a.toList == b.toList) := by rw [e, Bool.not_not]
  rw [this]
  simp [binOp, Op.stringOp]
@[go_sem] theorem binOp_string_geq' (t : TypeId) (a b : ByteArray) : binOp .geq t (.string a) (.string b) = pure (.bool (!(Op.bytesLess a.toList b.toList))) := by simp [binOp, Op.stringOp]
end Go
