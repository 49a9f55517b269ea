import Derived.Test.YtcdkgenfggdpaaaStoreViewI
import Derived.Test.YtcdkgenfggdpaaaG22
namespace Go.Proofs.Ytcdkgenfggdpaaa.Q
open Go.RowKit Go.Proofs.YtcdkgenfggdpaaaW.PrintWords Go.Proofs.Ytcdkgenfggdpaaa.G
set_option linter.unusedVariables false
set_option linter.unusedSimpArgs false

/-- What both answer to a recovery. -/
noncomputable def recOf (S : List ByteArray) (P : List Wr) (L : List ByteArray) (n : Int) : List ByteArray × List Wr × List ByteArray × Int × Bool := by
  classical
  exact if SOk S P L n ∧ n = (L.length : Int) then (viewOf S P L, [], [], 0, true) else ([], [], [], 0, false)
theorem recOf_yes {S : List ByteArray} {P : List Wr} {L : List ByteArray} {n : Int} (h : SOk S P L n) (h2 : n = (L.length : Int)) : recOf S P L n = (viewOf S P L, [], [], 0, true) := by
  classical
  unfold recOf
  exact if_pos ⟨h, h2⟩
theorem recOf_no {S : List ByteArray} {P : List Wr} {L : List ByteArray} {n : Int} (h : ¬ (SOk S P L n ∧ n = (L.length : Int))) : recOf S P L n = ([], [], [], 0, false) := by
  classical
  unfold recOf
  exact if_neg h
theorem rec_evs (S : List ByteArray) (P : List Wr) (L : List ByteArray) (n : Int) (hS : S.length ≤ 1048576) (hP : P.length ≤ 1048576) (hL : L.length ≤ 1048576) (sL : Short L) : Ev (fun k => spec_RecoverStore.f k S P L n) (recOf S P L n) ∧ Ev (fun k => impl_RecoverStore.f k S P L n) (recOf S P L n) := by
  have h1 := specStore_ev S P L n hS hP hL sL
  have h2 := implView_ev S P L n hS hP hL sL
  unfold spec_RecoverStore.f impl_RecoverStore.f
  by_cases c1 : SOk S P L n
  · rw [viewRes_yes c1] at h2
    obtain ⟨a, b, c, d⟩ := view_parts c1
    by_cases c2 : n = (L.length : Int)
    · rw [recOf_yes c1 c2]
      have e : (n != (L.length : Int)) = false := by rw [bne_eq_false_iff_eq]; exact c2
      rw [e]
      refine ⟨Ev.bind' _ h1 (Ev.pos (sOk_iff.2 c1) ?_), Ev.bind' _ h2 (Ev.pos rfl (Ev.pos c2 (Ev.now _)))⟩
      refine Ev.step (fun k => by rw [spec_RecoverStore.j0]) (Ev.neg (by simp) ?_)
      exact Ev.bind' _ ((l11Writes_ev L hL sL _).1 c1.2.1) (Ev.bind' _ (l1Done_ev S P a.1 a.2 c) (Ev.bind' _ (l1Done_ev _ _ b.1 b.2 d) (Ev.now _)))
    · rw [recOf_no (fun h => c2 h.2)]
      have e : (n != (L.length : Int)) = true := by rw [bne_iff_ne]; exact c2
      rw [e]
      refine ⟨Ev.bind' _ h1 (Ev.pos (sOk_iff.2 c1) ?_), Ev.bind' _ h2 (Ev.pos rfl (Ev.neg c2 (Ev.now _)))⟩
      exact Ev.step (fun k => by rw [spec_RecoverStore.j0]) (Ev.pos rfl (Ev.now _))
  · rw [viewRes_no c1] at h2
    rw [recOf_no (fun h => c1 h.1)]
    refine ⟨Ev.bind' _ h1 (Ev.neg (fun e => c1 (sOk_iff.1 e)) ?_), Ev.bind' _ h2 (Ev.neg (by simp) (Ev.now _))⟩
    exact Ev.step (fun k => by rw [spec_RecoverStore.j0]) (Ev.pos rfl (Ev.now _))
theorem recoverStore_both (S : List ByteArray) (P : List Wr) (L : List ByteArray) (n : Int) (hS : S.length ≤ 1048576) (hP : P.length ≤ 1048576) (hL : L.length ≤ 1048576) (sS : ∀ i, i < S.length → (S.getD i ByteArray.empty).size ≤ 1048576) (sL : ∀ i, i < L.length → (L.getD i ByteArray.empty).size ≤ 1048576) : ∃ r, Ev (fun k => spec_RecoverStore.f k S P L n) r ∧ Ev (fun k => impl_RecoverStore.f k S P L n) r ∧ r.1.length ≤ 2000000 ∧ r.2.1.length ≤ 2000000 ∧ r.2.2.1.length ≤ 2000000 := by
  obtain ⟨h1, h2⟩ := rec_evs S P L n hS hP hL sL
  refine ⟨_, h1, h2, ?_⟩
  by_cases c1 : SOk S P L n ∧ n = (L.length : Int)
  · rw [recOf_yes c1.1 c1.2]
    refine ⟨?_, by simp, by simp⟩
    show (viewOf S P L).length ≤ 2000000
    rw [viewOf_len]
    omega
  · rw [recOf_no c1]
    simp
end Go.Proofs.Ytcdkgenfggdpaaa.Q
