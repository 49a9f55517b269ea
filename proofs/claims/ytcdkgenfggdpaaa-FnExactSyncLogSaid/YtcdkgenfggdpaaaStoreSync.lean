import Derived.Test.YtcdkgenfggdpaaaStoreGood
import Derived.Test.YtcdkgenfggdpaaaStoreOwn
import Derived.Test.YtcdkgenfggdpaaaG21
namespace Go.Proofs.Ytcdkgenfggdpaaa.Q
open Go.RowKit Go.Proofs.YtcdkgenfggdpaaaW.PrintWords Go.Proofs.Ytcdkgenfggdpaaa.G
set_option linter.unusedVariables false
set_option linter.unusedSimpArgs false

/-- What both answer to a sync. -/
noncomputable def syncOf (S : List ByteArray) (P : List Wr) (L : List ByteArray) (n : Int) : List ByteArray × List Wr × List ByteArray × Int × Bool := by
  classical
  exact if SOk S P L n then (S, P, L, (L.length : Int), true) else ([], [], [], 0, false)
theorem syncOf_yes {S : List ByteArray} {P : List Wr} {L : List ByteArray} {n : Int} (h : SOk S P L n) : syncOf S P L n = (S, P, L, (L.length : Int), true) := by
  classical
  unfold syncOf
  exact if_pos h
theorem syncOf_no {S : List ByteArray} {P : List Wr} {L : List ByteArray} {n : Int} (h : ¬ SOk S P L n) : syncOf S P L n = ([], [], [], 0, false) := by
  classical
  unfold syncOf
  exact if_neg h
theorem sync_evs (S : List ByteArray) (P : List Wr) (L : List ByteArray) (n : Int) (hS : S.length ≤ 1048576) (hP : P.length ≤ 1048576) (hL : L.length ≤ 1048576) (sL : Short L) : Ev (fun k => spec_SyncLog.f k S P L n) (syncOf S P L n) ∧ Ev (fun k => impl_SyncLog.f k S P L n) (syncOf S P L n) := by
  have h1 := specStore_ev S P L n hS hP hL sL
  have h2 := implStore_ev S P L n hS hP hL sL
  unfold spec_SyncLog.f impl_SyncLog.f
  by_cases c1 : SOk S P L n
  · rw [syncOf_yes c1]
    exact ⟨Ev.bind' _ h1 (Ev.pos (sOk_iff.2 c1) (Ev.bindc _ (own_spec S P L n hS hP hL) (Ev.now _))), Ev.bind' _ h2 (Ev.pos (sOk_iff.2 c1) (Ev.bindc _ (own_impl S P L n hS hP hL) (Ev.now _)))⟩
  · rw [syncOf_no c1]
    exact ⟨Ev.bind' _ h1 (Ev.neg (fun e => c1 (sOk_iff.1 e)) (Ev.now _)), Ev.bind' _ h2 (Ev.neg (fun e => c1 (sOk_iff.1 e)) (Ev.now _))⟩
theorem syncLog_both (S : List ByteArray) (P : List Wr) (L : List ByteArray) (n : Int) (hS : S.length ≤ 1048576) (hP : P.length ≤ 1048576) (hL : L.length ≤ 1048576) (sS : ∀ i, i < S.length → (S.getD i ByteArray.empty).size ≤ 1048576) (sL : ∀ i, i < L.length → (L.getD i ByteArray.empty).size ≤ 1048576) : ∃ r, Ev (fun k => spec_SyncLog.f k S P L n) r ∧ Ev (fun k => impl_SyncLog.f k S P L n) r ∧ r.1.length ≤ 2000000 ∧ r.2.1.length ≤ 2000000 ∧ r.2.2.1.length ≤ 2000000 := by
  obtain ⟨h1, h2⟩ := sync_evs S P L n hS hP hL sL
  refine ⟨_, h1, h2, ?_⟩
  by_cases c1 : SOk S P L n
  · rw [syncOf_yes c1]
    dsimp only
    omega
  · rw [syncOf_no c1]
    simp
end Go.Proofs.Ytcdkgenfggdpaaa.Q
