/- The plain law of FnExactTxnText: both test the same of the writes and lay the same bytes. No condition. -/
import Derived.Test.YtcdkgenfggdpaaaTxnBase
import Derived.Test.YtcdkgenfggdpaaaG5
namespace Go.Proofs.Ytcdkgenfggdpaaa.Q
open Go.RowKit Go.Proofs.YtcdkgenfggdpaaaW.PrintWords Go.Proofs.Ytcdkgenfggdpaaa.G
set_option linter.unusedVariables false
set_option linter.unusedSimpArgs false

theorem FnExactTxnText : laws_FnExactTxnText.Pure := by
  intro l0 h0
  refine Ev.rounds (r := true) ?_
  unfold laws_FnExactTxnText.f
  obtain ⟨r, h1, h2⟩ := szWriteS_ev l0 h0.1 h0.2 1048576 (by omega) (by omega)
  refine Ev.bind' r h1 ?_
  by_cases hr : r < 0
  · exact Ev.pos hr (Ev.now _)
  · refine Ev.neg hr ?_
    have hb := h2 hr
    have ht := toWriteS_ev l0 (by omega)
    refine Ev.bind' _ ht ?_
    obtain ⟨q, h3, h4⟩ := specTxnText_ev (l0.map convWrite) (by rw [List.length_map]; omega)
    refine Ev.bind' q h3 (Ev.bind' _ ht (Ev.bind' q h4 (Ev.pos rfl ?_)))
    refine Ev.step (fun k => by rw [laws_FnExactTxnText.j0]) ?_
    refine Ev.neg (by simp) (Ev.bind' _ ht (Ev.bind' _ (eqWriteS_refl _ (by rw [List.length_map]; omega)) (Ev.pos rfl (Ev.now _))))
end Go.Proofs.Ytcdkgenfggdpaaa.Q
