/- OpenOf of the reference and of the program: the same answer. -/
import Derived.Test.YtakgjdckolllaaaIntOpenI
import Derived.Test.YtakgjdckolllaaaG7
namespace Go.Proofs.Ytakgjdckolllaaa.Q
open Go.RowKit Go.Proofs.YtakgjdckolllaaaW.PrintWords Go.Proofs.Ytakgjdckolllaaa.G
set_option linter.unusedVariables false
theorem openOf_both (n : Int) (fp m : List X_) (nxt : Int) (l : List It) (hfp : fp.length ≤ 1048576) (hm : m.length ≤ 1048576) (hl : l.length ≤ 1048576) :
    ∃ r, Ev (fun k => spec_OpenOf.f k n fp m nxt l) r ∧ Ev (fun k => impl_OpenOf.f k n fp m nxt l) r ∧ r.1.length ≤ 2000000 := by
  obtain ⟨o, b, c, d, e⟩ := openOf_full n fp m nxt l hfp hl
  refine ⟨ansI o, ?_, b, ?_⟩
  · unfold spec_OpenOf.f
    cases o with
    | none => exact Ev.bind' _ (d rfl) (Ev.neg Bool.false_ne_true (Ev.now _))
    | some out =>
      obtain ⟨g, q⟩ := e out rfl
      exact Ev.bind' _ g (Ev.pos rfl (Ev.bind' _ q (Ev.now _)))
  · cases o with
    | none => exact Nat.zero_le _
    | some out => have := c out rfl; show out.length ≤ 2000000; omega
end Go.Proofs.Ytakgjdckolllaaa.Q
