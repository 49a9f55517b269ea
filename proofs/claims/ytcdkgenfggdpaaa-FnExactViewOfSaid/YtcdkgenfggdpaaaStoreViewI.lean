import Derived.Test.YtcdkgenfggdpaaaStoreSeen
import Derived.Test.YtcdkgenfggdpaaaStorePerf
import Derived.Test.YtcdkgenfggdpaaaG13
namespace Go.Proofs.Ytcdkgenfggdpaaa.Q
open Go.RowKit Go.Proofs.YtcdkgenfggdpaaaW.PrintWords Go.Proofs.Ytcdkgenfggdpaaa.G
set_option linter.unusedVariables false
set_option linter.unusedSimpArgs false

theorem implView_ev (S : List ByteArray) (P : List Wr) (L : List ByteArray) (n : Int) (hS : S.length ≤ 1048576) (hP : P.length ≤ 1048576) (hL : L.length ≤ 1048576) (sL : Short L) : Ev (fun k => impl_ViewOf.f k S P L n) (viewRes S P L n) := by
  have h1 := implStore_ev S P L n hS hP hL sL
  unfold impl_ViewOf.f
  by_cases c1 : SOk S P L n
  · rw [viewRes_yes c1]
    obtain ⟨a, b, c, d⟩ := view_parts c1
    exact Ev.bind' _ h1 (Ev.pos (sOk_iff.2 c1) (Ev.bind' _ (performed_ev S P a.1 a.2 c) (Ev.bind' _ (writesOf_ev L hL sL) (Ev.bind' _ (changedBy_ev _ _ b.1 b.2 d) (Ev.now _)))))
  · rw [viewRes_no c1]
    exact Ev.bind' _ h1 (Ev.neg (fun e => c1 (sOk_iff.1 e)) (Ev.now _))
end Go.Proofs.Ytcdkgenfggdpaaa.Q
