/- BucketOf of both. -/
import Derived.Test.YtnjnlocndalpjaaDoorDirSlot
import Derived.Test.YtnjnlocndalpjaaDoorG8
namespace Go.Proofs.YtnjnlocndalpjaaDoor.Q
open Go.RowKit Go.Proofs.YtnjnlocndalpjaaDoorW.PrintWords Go.Proofs.YtnjnlocndalpjaaDoor.G
set_option linter.unusedVariables false
set_option linter.unusedSimpArgs false
theorem bucketOf_both (D : Int) (sl : List Int) (bs : List Bu) (a : ByteArray) (Z : SzOk sl bs) (ha : a.size ≤ 1048576) : ∃ r : Int × Bool, Ev (fun k => spec_BucketOf.f k D sl bs a) r ∧ Ev (fun k => impl_BucketOf.f k D sl bs a) r := by
  obtain ⟨g, ⟨gs, gi⟩, gg⟩ := goodDir_ev D sl bs Z
  unfold spec_BucketOf.f impl_BucketOf.f
  cases g with
  | false => exact ⟨(0, false), Ev.bind' _ gs (Ev.neg (by decide) (Ev.now _)), Ev.bind' _ gi (Ev.neg (by decide) (Ev.now _))⟩
  | true =>
    have G := gg.1 rfl
    have ns := isNm_s a ha
    have ni := isNm_i a
    cases hn : isNm a with
    | false =>
      rw [hn] at ns ni
      exact ⟨(0, false), Ev.bind' _ gs (Ev.pos rfl (Ev.bind' _ ns (Ev.neg (by decide) (Ev.now _)))), Ev.bind' _ gi (Ev.pos rfl (Ev.bindc _ ni (Ev.neg (by decide) (Ev.now _))))⟩
    | true =>
      rw [hn] at ns ni
      obtain ⟨m0, m1, k0, k1⟩ := slot_rng G a
      exact ⟨(rd sl (hashV a % pw D), true), Ev.bind' _ gs (Ev.pos rfl (Ev.bind' _ ns (Ev.pos rfl (Ev.bind' _ (l8Bucket_ev G a ha) (Ev.now _))))),
        Ev.bind' _ gi (Ev.pos rfl (Ev.bindc _ ni (Ev.pos rfl (Ev.bind' _ (slotOf_good G a ha) (Ev.pos m0 (Ev.pos m1 (Ev.now _)))))))⟩
end Go.Proofs.YtnjnlocndalpjaaDoor.Q
