/- BucketOf and LookName of both. -/
import Derived.Test.YtnjnlocndalpjaaDoorDirFind
import Derived.Test.YtnjnlocndalpjaaDoorG9
namespace Go.Proofs.YtnjnlocndalpjaaDoor.Q
open Go.RowKit Go.Proofs.YtnjnlocndalpjaaDoorW.PrintWords Go.Proofs.YtnjnlocndalpjaaDoor.G
set_option linter.unusedVariables false
set_option linter.unusedSimpArgs false
theorem lookName_both (D : Int) (sl : List Int) (bs : List Bu) (a : ByteArray) (Z : SzOk sl bs) (ha : a.size ≤ 1048576) : ∃ r : Int × Bool, Ev (fun k => spec_LookName.f k D sl bs a) r ∧ Ev (fun k => impl_LookName.f k D sl bs a) r := by
  obtain ⟨g, ⟨gs, gi⟩, gg⟩ := goodDir_ev D sl bs Z
  have js : Ev (fun k => spec_LookName.j0 k a true D sl bs) (0, false) := Ev.step (fun k => by rw [spec_LookName.j0]) (Ev.pos rfl (Ev.now _))
  have ji : Ev (fun k => impl_LookName.j0 k a true D sl bs) (0, false) := Ev.step (fun k => by rw [impl_LookName.j0]) (Ev.pos rfl (Ev.now _))
  cases g with
  | false =>
    refine ⟨(0, false), ?_, ?_⟩
    · unfold spec_LookName.f
      exact Ev.bind' _ gs (Ev.neg (by decide) js)
    · unfold impl_LookName.f
      exact Ev.bind' _ gi (Ev.neg (by decide) ji)
  | true =>
    have G := gg.1 rfl
    cases hn : isNm a with
    | false =>
      refine ⟨(0, false), ?_, ?_⟩
      · unfold spec_LookName.f
        refine Ev.bind' _ gs (Ev.pos rfl (Ev.bind' _ (isNm_s a ha) ?_))
        rw [hn]
        exact js
      · unfold impl_LookName.f
        refine Ev.bind' _ gi (Ev.pos rfl (Ev.bindc _ (isNm_i a) ?_))
        rw [hn]
        exact ji
    | true =>
      obtain ⟨p, h, fi, fs⟩ := find_ev G Z a ha
      obtain ⟨m0, m1, k0, k1⟩ := slot_rng G a
      have sb := l8Bucket_ev G a ha
      generalize rd sl (hashV a % pw D) = b at *
      have key : ∃ r : Int × Bool, Ev (fun k => spec_LookName.j0 k a false D sl bs) r ∧ Ev (fun k => impl_LookName.j0 k a false D sl bs) r := by
        cases c : hasAt (buc bs b).f1 a p with
        | false =>
          rw [c] at fi fs
          refine ⟨(0, false), Ev.step (fun k => by rw [spec_LookName.j0]) (Ev.neg (by decide) (Ev.bind' _ sb (Ev.pos k0 (Ev.pos k1 (Ev.bind' _ fs ?_))))), Ev.step (fun k => by rw [impl_LookName.j0]) (Ev.neg (by decide) (Ev.bind' _ fi ?_))⟩
          · exact Ev.neg (by simp) (Ev.now _)
          · exact Ev.neg (by simp) (Ev.now _)
        | true =>
          have pl : p < (buc bs b).f1.length := by
            unfold hasAt at c
            rw [Bool.and_eq_true, decide_eq_true_iff] at c
            exact c.1
          have p0 : (0 : Int) ≤ (p : Int) := by omega
          have p1 : (p : Int) < ((buc bs b).f1.length : Int) := by omega
          rw [c] at fi fs
          refine ⟨((nmAt (buc bs b).f1 (p : Int)).f1, true), Ev.step (fun k => by rw [spec_LookName.j0]) (Ev.neg (by decide) (Ev.bind' _ sb (Ev.pos k0 (Ev.pos k1 (Ev.bind' _ fs ?_))))), Ev.step (fun k => by rw [impl_LookName.j0]) (Ev.neg (by decide) (Ev.bind' _ fi ?_))⟩
          · exact Ev.pos rfl (Ev.pos p0 (Ev.pos p1 (Ev.now _)))
          · exact Ev.pos rfl (Ev.pos k0 (Ev.pos k1 (Ev.pos p0 (Ev.pos p1 (Ev.now _)))))
      obtain ⟨r, ks, ki⟩ := key
      refine ⟨r, ?_, ?_⟩
      · unfold spec_LookName.f
        refine Ev.bind' _ gs (Ev.pos rfl (Ev.bind' _ (isNm_s a ha) ?_))
        rw [hn]
        exact ks
      · unfold impl_LookName.f
        refine Ev.bind' _ gi (Ev.pos rfl (Ev.bindc _ (isNm_i a) ?_))
        rw [hn]
        exact ki
end Go.Proofs.YtnjnlocndalpjaaDoor.Q
