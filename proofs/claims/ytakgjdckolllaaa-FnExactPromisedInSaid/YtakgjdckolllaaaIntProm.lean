/- PromisedIn of the reference and of the program: the same answer. -/
import Derived.Test.YtakgjdckolllaaaIntOpenI
import Derived.Test.YtakgjdckolllaaaG8
namespace Go.Proofs.Ytakgjdckolllaaa.Q
open Go.RowKit Go.Proofs.YtakgjdckolllaaaW.PrintWords Go.Proofs.Ytakgjdckolllaaa.G
set_option linter.unusedVariables false
theorem sum_same (q : List It) (c : Int) : ∀ k s j, impl_PromisedIn.l0 k s q c j = spec_PromisedIn.l0 k s q c j
  | 0, s, j => by rw [impl_PromisedIn.l0, spec_PromisedIn.l0]
  | k + 1, s, j => by rw [impl_PromisedIn.l0, spec_PromisedIn.l0, sum_same q c k]
theorem sum_ev (q : List It) (hq : q.length ≤ 1000000) : ∀ (d j : Nat) (s : Int), q.length - j = d → j ≤ q.length → ∃ r, Ev (fun k => spec_PromisedIn.l0 k s q (q.length : Int) (j : Int)) r := by
  intro d
  induction d with
  | zero =>
    intro j s hd hj
    exact ⟨(s, true), Ev.step (fun k => by rw [spec_PromisedIn.l0]) (Ev.neg (by omega) (Ev.now _))⟩
  | succ d ih =>
    intro j s hd hj
    obtain ⟨r, h⟩ := ih (j + 1) (wrap64 (s + (wrap64 (((rd_T71 q (j : Int)).f2.f1) - ((rd_T71 q (j : Int)).f3))))) (by omega) (by omega)
    rw [show ((j + 1 : Nat) : Int) = wrap64 ((j : Int) + 1) by rw [w64 (by omega) (by omega)]; rfl] at h
    exact ⟨r, Ev.step (fun k => by rw [spec_PromisedIn.l0]) (Ev.pos (by omega) (Ev.pos (by omega) (Ev.pos (show (j : Int) < (q.length : Int) by omega) h)))⟩
theorem promisedIn_both (n : Int) (fp m : List X_) (nxt : Int) (l : List It) (hfp : fp.length ≤ 1048576) (hm : m.length ≤ 1048576) (hl : l.length ≤ 1048576) :
    ∃ r, Ev (fun k => spec_PromisedIn.f k n fp m nxt l) r ∧ Ev (fun k => impl_PromisedIn.f k n fp m nxt l) r := by
  obtain ⟨o, b, c, d, e⟩ := openOf_full n fp m nxt l hfp hl
  unfold spec_PromisedIn.f impl_PromisedIn.f
  cases o with
  | none => exact ⟨(0, false), Ev.bind' _ (d rfl) (Ev.neg Bool.false_ne_true (Ev.now _)), Ev.bind' _ b (Ev.neg Bool.false_ne_true (Ev.now _))⟩
  | some out =>
    obtain ⟨g, q⟩ := e out rfl
    have hl30 := c out rfl
    obtain ⟨r, hr⟩ : ∃ r, Ev (fun k => spec_PromisedIn.l0 k 0 out (out.length : Int) 0) r := sum_ev out (by omega) out.length 0 0 rfl (Nat.zero_le _)
    exact ⟨r, Ev.bind' _ g (Ev.pos rfl (Ev.bind' _ q hr)), Ev.bind' _ b (Ev.pos rfl (Ev.congr (fun k => sum_same out _ k 0 0) hr))⟩
end Go.Proofs.Ytakgjdckolllaaa.Q
