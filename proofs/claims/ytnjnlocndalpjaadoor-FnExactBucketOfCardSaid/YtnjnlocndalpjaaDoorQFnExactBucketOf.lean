/- The plain law of FnExactBucketOf: the reference and the program give the same answer, and the argument stays. No condition. -/
import Derived.Test.YtnjnlocndalpjaaDoorDirArgs
import Derived.Test.YtnjnlocndalpjaaDoorDirBuck
import Derived.Test.YtnjnlocndalpjaaDoorG8
namespace Go.Proofs.YtnjnlocndalpjaaDoor.Q
open Go.RowKit Go.Proofs.YtnjnlocndalpjaaDoorW.PrintWords Go.Proofs.YtnjnlocndalpjaaDoor.G
set_option linter.unusedVariables false
set_option linter.unusedSimpArgs false
theorem FnExactBucketOf : laws_FnExactBucketOf.Pure := by
  intro x0 x1 x2 a o0 oa
  refine Ev.rounds (r := true) ?_
  unfold laws_FnExactBucketOf.f
  by_cases g : (a.size : Int) > 1048576
  · exact Ev.pos g (Ev.now _)
  refine Ev.neg g ?_
  obtain ⟨t0, e0, n0⟩ := szDir_ev x0 x1 x2 o0.2.1.1 o0.2.2.1 o0.2.2.2 1048576 (by omega) (by omega)
  by_cases c0 : t0 < 0
  · exact Ev.bind' _ e0 (Ev.pos c0 (Ev.now _))
  obtain ⟨_, l1, l2, l3⟩ := n0 c0
  obtain ⟨Z, hn⟩ := dir_sizes x1 x2 l1 l2 l3
  have to0 := toDir_ev x0 x1 x2 (by omega) (by omega) (fun j hj => by have := (l3 j hj).1; omega)
  have ea0 := eqDir_refl x0 x1 (x2.map convBucket) Z.s Z.b hn
  obtain ⟨r, hs, hi⟩ := bucketOf_both x0 x1 (x2.map convBucket) a Z (by omega)
  refine Ev.bind' _ e0 (Ev.neg c0 (Ev.bind' _ to0 (Ev.bind' _ hs (Ev.bind' _ to0 (Ev.bind' _ hi (Ev.pos rfl ?_))))))
  refine Ev.step (fun k => by rw [laws_FnExactBucketOf.j0]) (Ev.neg (by simp) (Ev.bind' _ to0 (Ev.bind' _ ea0 (Ev.pos rfl (Ev.now _)))))
end Go.Proofs.YtnjnlocndalpjaaDoor.Q
