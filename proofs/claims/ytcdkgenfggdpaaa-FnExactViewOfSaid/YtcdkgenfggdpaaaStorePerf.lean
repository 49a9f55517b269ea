import Derived.Test.YtcdkgenfggdpaaaStoreDone
import Derived.Test.YtcdkgenfggdpaaaG12
namespace Go.Proofs.Ytcdkgenfggdpaaa.Q
open Go.RowKit Go.Proofs.YtcdkgenfggdpaaaW.PrintWords Go.Proofs.Ytcdkgenfggdpaaa.G
set_option linter.unusedVariables false
set_option linter.unusedSimpArgs false

theorem performed_ev (S : List ByteArray) (P : List Wr) (hS : S.length ≤ 1048576) (hP : P.length ≤ 1000000000) (h : OnDev S.length P) : Ev (fun k => impl_performed_at_impl_all.f k S P) (doneOf S P) := by
  unfold impl_performed_at_impl_all.f
  refine Ev.bindc S (by unfold slices_Clone_string_string.f; exact if_pos (by omega)) ?_
  refine allRounds (L := fun k i => impl_performed_at_impl_all.l0 k (doneOf S (P.take i)) P (P.length : Int) (i : Int)) (n := P.length) ?_ ?_
  · refine Ev.step (fun k => by rw [impl_performed_at_impl_all.l0]) ?_
    exact Ev.neg (by omega) (Ev.now' (by rw [List.take_length]))
  · intro i hi next
    have hw := h i hi
    refine Ev.step (fun k => by rw [impl_performed_at_impl_all.l0]) ?_
    rw [rdiWrite, w64 (x := (i : Int) + 1) (by omega) (by omega)]
    rw [doneOf_succ S P i hi] at next
    exact Ev.pos (by omega) (Ev.pos (by omega) (Ev.pos (by omega) (Ev.bindc true rfl (Ev.pos rfl (Ev.pos hw.1 (Ev.pos (by rw [doneOf_len]; exact hw.2) next))))))
theorem changedBy_ev (S : List ByteArray) (P : List Wr) (hS : S.length ≤ 1048576) (hP : P.length ≤ 1000000000) (h : OnDev S.length P) : Ev (fun k => impl_changedBy.f k S P) (doneOf S P) := by
  unfold impl_changedBy.f
  exact Ev.bind' _ (performed_ev S P hS hP h) (Ev.now _)
end Go.Proofs.Ytcdkgenfggdpaaa.Q
