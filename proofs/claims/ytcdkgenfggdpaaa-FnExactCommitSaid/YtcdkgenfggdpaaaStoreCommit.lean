import Derived.Test.YtcdkgenfggdpaaaStoreGood
import Derived.Test.YtcdkgenfggdpaaaStoreOwn
import Derived.Test.YtcdkgenfggdpaaaG19
namespace Go.Proofs.Ytcdkgenfggdpaaa.Q
open Go.RowKit Go.Proofs.YtcdkgenfggdpaaaW.PrintWords Go.Proofs.Ytcdkgenfggdpaaa.G
set_option linter.unusedVariables false
set_option linter.unusedSimpArgs false

/-- What both answer to a commit. -/
noncomputable def commitOf (S : List ByteArray) (P : List Wr) (L : List ByteArray) (n : Int) (l : List Wr) : List ByteArray × List Wr × List ByteArray × Int × Bool := by
  classical
  exact if SOk S P L n ∧ TOk (S.length : Int) l ∧ L.length ≠ 40 then (S, P, L ++ [strOfNums (ttxt l)], n, true) else ([], [], [], 0, false)
theorem commit_evs (S : List ByteArray) (P : List Wr) (L : List ByteArray) (n : Int) (l : List Wr) (hS : S.length ≤ 1048576) (hP : P.length ≤ 1048576) (hL : L.length ≤ 1048576) (hl : l.length ≤ 1048576) (sL : Short L) : Ev (fun k => spec_Commit.f k S P L n l) (commitOf S P L n l) ∧ Ev (fun k => impl_Commit.f k S P L n l) (commitOf S P L n l) := by
  classical
  have h1 := specStore_ev S P L n hS hP hL sL
  have h2 := implStore_ev S P L n hS hP hL sL
  have h3 := l11Txn_ev l (by omega) (S.length : Int)
  have h4 := isTxn_ev l (by omega) (S.length : Int)
  have no : ¬ (SOk S P L n ∧ TOk (S.length : Int) l ∧ L.length ≠ 40) → Ev (fun k => spec_Commit.j0 k l true S P L n) (commitOf S P L n l) ∧ Ev (fun k => impl_Commit.j0 k l true S P L n) (commitOf S P L n l) := fun h => by
    unfold commitOf
    rw [if_neg h]
    exact ⟨Ev.step (fun k => by rw [spec_Commit.j0]) (Ev.pos rfl (Ev.now _)), Ev.step (fun k => by rw [impl_Commit.j0]) (Ev.pos rfl (Ev.now _))⟩
  unfold spec_Commit.f impl_Commit.f
  by_cases c1 : SOk S P L n
  · by_cases c2 : TOk (S.length : Int) l
    · have e : ((L.length : Int) == 40) = decide (L.length = 40) := by
        rw [Bool.eq_iff_iff, beq_iff_eq, decide_eq_true_iff]; omega
      rw [e]
      by_cases c3 : L.length = 40
      · rw [decide_eq_true c3]
        obtain ⟨n1, n2⟩ := no (fun h => h.2.2 c3)
        exact ⟨Ev.bind' _ h1 (Ev.pos (sOk_iff.2 c1) (Ev.bind' _ h3 (Ev.pos (tOk_iff.2 c2) n1))), Ev.bind' _ h2 (Ev.pos (sOk_iff.2 c1) (Ev.bind' _ h4 (Ev.pos (tOk_iff.2 c2) n2)))⟩
      · rw [decide_eq_false c3]
        have e2 : commitOf S P L n l = (S, P, L ++ [strOfNums (ttxt l)], n, true) := by
          unfold commitOf
          exact if_pos ⟨c1, c2, c3⟩
        rw [e2]
        have h40 := c1.1.2.1
        refine ⟨Ev.bind' _ h1 (Ev.pos (sOk_iff.2 c1) (Ev.bind' _ h3 (Ev.pos (tOk_iff.2 c2) ?_))), Ev.bind' _ h2 (Ev.pos (sOk_iff.2 c1) (Ev.bind' _ h4 (Ev.pos (tOk_iff.2 c2) ?_)))⟩
        · refine Ev.step (fun k => by rw [spec_Commit.j0]) (Ev.neg (by simp) (Ev.bindc _ (own_spec S P L n hS hP hL) (Ev.bind' _ (l11Text_ev _ l c2) (Ev.pos (show L.length < 8796093022208 by omega) (Ev.now _)))))
        · refine Ev.step (fun k => by rw [impl_Commit.j0]) (Ev.neg (by simp) (Ev.bindc _ (own_impl S P L n hS hP hL) (Ev.bind' _ (txnText_ev _ l c2) (Ev.pos (show L.length < 8796093022208 by omega) (Ev.now _)))))
    · obtain ⟨n1, n2⟩ := no (fun h => c2 h.2.1)
      exact ⟨Ev.bind' _ h1 (Ev.pos (sOk_iff.2 c1) (Ev.bind' _ h3 (Ev.neg (fun e => c2 (tOk_iff.1 e)) n1))), Ev.bind' _ h2 (Ev.pos (sOk_iff.2 c1) (Ev.bind' _ h4 (Ev.neg (fun e => c2 (tOk_iff.1 e)) n2)))⟩
  · obtain ⟨n1, n2⟩ := no (fun h => c1 h.1)
    exact ⟨Ev.bind' _ h1 (Ev.neg (fun e => c1 (sOk_iff.1 e)) n1), Ev.bind' _ h2 (Ev.neg (fun e => c1 (sOk_iff.1 e)) n2)⟩
theorem commitOf_len (S : List ByteArray) (P : List Wr) (L : List ByteArray) (n : Int) (l : List Wr) (hS : S.length ≤ 1048576) (hP : P.length ≤ 1048576) (hL : L.length ≤ 1048576) : (commitOf S P L n l).1.length ≤ 2000000 ∧ (commitOf S P L n l).2.1.length ≤ 2000000 ∧ (commitOf S P L n l).2.2.1.length ≤ 2000000 := by
  classical
  unfold commitOf
  by_cases h : SOk S P L n ∧ TOk (S.length : Int) l ∧ L.length ≠ 40
  · rw [if_pos h]
    simp only [List.length_append, List.length_singleton]
    omega
  · rw [if_neg h]
    simp
theorem commit_both (S : List ByteArray) (P : List Wr) (L : List ByteArray) (n : Int) (l : List Wr) (hS : S.length ≤ 1048576) (hP : P.length ≤ 1048576) (hL : L.length ≤ 1048576) (hl : l.length ≤ 1048576) (sS : ∀ i, i < S.length → (S.getD i ByteArray.empty).size ≤ 1048576) (sL : ∀ i, i < L.length → (L.getD i ByteArray.empty).size ≤ 1048576) : ∃ r, Ev (fun k => spec_Commit.f k S P L n l) r ∧ Ev (fun k => impl_Commit.f k S P L n l) r ∧ r.1.length ≤ 2000000 ∧ r.2.1.length ≤ 2000000 ∧ r.2.2.1.length ≤ 2000000 := by
  obtain ⟨h1, h2⟩ := commit_evs S P L n l hS hP hL hl sL
  exact ⟨_, h1, h2, commitOf_len S P L n l hS hP hL⟩
end Go.Proofs.Ytcdkgenfggdpaaa.Q
