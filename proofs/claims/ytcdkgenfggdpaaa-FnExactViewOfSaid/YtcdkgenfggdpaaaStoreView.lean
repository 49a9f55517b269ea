import Derived.Test.YtcdkgenfggdpaaaStoreViewI
import Derived.Test.YtcdkgenfggdpaaaG18
namespace Go.Proofs.Ytcdkgenfggdpaaa.Q
open Go.RowKit Go.Proofs.YtcdkgenfggdpaaaW.PrintWords Go.Proofs.Ytcdkgenfggdpaaa.G
set_option linter.unusedVariables false
set_option linter.unusedSimpArgs false

theorem specView_ev (S : List ByteArray) (P : List Wr) (L : List ByteArray) (n : Int) (hS : S.length ≤ 1048576) (hP : P.length ≤ 1048576) (hL : L.length ≤ 1048576) (sL : Short L) : Ev (fun k => spec_ViewOf.f k S P L n) (viewRes S P L n) := by
  have h1 := specStore_ev S P L n hS hP hL sL
  unfold spec_ViewOf.f
  by_cases c1 : SOk S P L n
  · rw [viewRes_yes c1]
    obtain ⟨a, b, c, d⟩ := view_parts c1
    exact Ev.bind' _ h1 (Ev.pos (sOk_iff.2 c1) (Ev.bind' _ ((l11Writes_ev L hL sL _).1 c1.2.1) (Ev.bind' _ (l1Done_ev S P a.1 a.2 c) (Ev.bind' _ (l1Done_ev _ _ b.1 b.2 d) (Ev.now _)))))
  · rw [viewRes_no c1]
    exact Ev.bind' _ h1 (Ev.neg (fun e => c1 (sOk_iff.1 e)) (Ev.now _))
theorem viewOf_both (S : List ByteArray) (P : List Wr) (L : List ByteArray) (n : Int) (hS : S.length ≤ 1048576) (hP : P.length ≤ 1048576) (hL : L.length ≤ 1048576) (sS : ∀ i, i < S.length → (S.getD i ByteArray.empty).size ≤ 1048576) (sL : ∀ i, i < L.length → (L.getD i ByteArray.empty).size ≤ 1048576) : ∃ r, Ev (fun k => spec_ViewOf.f k S P L n) r ∧ Ev (fun k => impl_ViewOf.f k S P L n) r ∧ r.1.length ≤ 2000000 := by
  refine ⟨_, specView_ev S P L n hS hP hL sL, implView_ev S P L n hS hP hL sL, ?_⟩
  by_cases c1 : SOk S P L n
  · rw [viewRes_yes c1]
    show (viewOf S P L).length ≤ 2000000
    rw [viewOf_len]
    omega
  · rw [viewRes_no c1]
    simp
end Go.Proofs.Ytcdkgenfggdpaaa.Q
