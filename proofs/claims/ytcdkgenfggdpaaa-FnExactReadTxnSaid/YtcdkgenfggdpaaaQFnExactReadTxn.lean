/- The plain law of FnExactReadTxn: both cut the same writes out of a text, and take it where it is the text of these. No condition. -/
import Derived.Test.YtcdkgenfggdpaaaTxnRead
import Derived.Test.YtcdkgenfggdpaaaG8
namespace Go.Proofs.Ytcdkgenfggdpaaa.Q
open Go.RowKit Go.Proofs.YtcdkgenfggdpaaaW.PrintWords Go.Proofs.Ytcdkgenfggdpaaa.G
set_option linter.unusedVariables false
set_option linter.unusedSimpArgs false

theorem FnExactReadTxn : laws_FnExactReadTxn.Pure := by
  intro s _
  refine Ev.rounds (r := true) ?_
  unfold laws_FnExactReadTxn.f
  by_cases hl : (s.size : Int) > 1048576
  · exact Ev.pos hl (Ev.now _)
  · have hbig : s.size ≤ 1048576 := by omega
    have h1 := specReadTxn_ev s hbig
    have h2 := implRead_ev s hbig
    have hlen := readOf_len s
    have he := eqWriteS_refl (readOf s).1 (by omega)
    obtain ⟨q, m, h3, h4, h5, h6, h7⟩ := markWriteS_ev (readOf s).1 1 (by omega) (by omega)
    refine Ev.neg hl (Ev.bind' _ h1 (Ev.bind' _ h2 (Ev.bind' _ he (Ev.pos rfl ?_))))
    refine Ev.step (fun k => by rw [laws_FnExactReadTxn.j0]) ?_
    refine Ev.neg (by simp) (Ev.bind' _ h3 (Ev.bind' _ h4 (Ev.neg (by omega) (Ev.pos rfl (Ev.bind' _ h2 (Ev.bind' _ he (Ev.pos rfl ?_)))))))
    refine Ev.step (fun k => by rw [laws_FnExactReadTxn.j1]) ?_
    exact Ev.neg (by simp) (Ev.bind' _ h4 (Ev.neg (by omega) (Ev.pos rfl (Ev.now _))))
end Go.Proofs.Ytcdkgenfggdpaaa.Q
