/- The slot of a name in a good directory. -/
import Derived.Test.YtfbjeppfnlfejaaDoorDirGood
import Derived.Test.YtfbjeppfnlfejaaDoorG3
namespace Go.Proofs.YtfbjeppfnlfejaaDoor.Q
open Go.RowKit Go.Proofs.YtfbjeppfnlfejaaDoorW.PrintWords Go.Proofs.YtfbjeppfnlfejaaDoor.G
set_option linter.unusedVariables false
set_option linter.unusedSimpArgs false
/-! ### a good directory -/
section
variable {D : Int} {sl : List Int} {bs : List Bu}
/-- The slot of a name. -/
theorem slot_rng (G : GoodS D sl bs) (a : ByteArray) : 0 ≤ hashV a % pw D ∧ hashV a % pw D < (sl.length : Int) ∧ 0 ≤ rd sl (hashV a % pw D) ∧ rd sl (hashV a % pw D) < (bs.length : Int) := by
  have p0 := pw_pos D
  have m0 : 0 ≤ hashV a % pw D := Int.emod_nonneg _ (by omega)
  have m1 : hashV a % pw D < pw D := Int.emod_lt_of_pos _ p0
  have n := G.n
  have s := G.S (hashV a % pw D).toNat (by omega)
  have k0 := s.k0; have k1 := s.k1
  rw [Int.toNat_of_nonneg m0] at k0 k1
  exact ⟨m0, by omega, k0, k1⟩
theorem l8Bucket_ev (G : GoodS D sl bs) (a : ByteArray) (ha : a.size ≤ 1048576) : Ev (fun k => spec_l8Bucket.f k D sl bs a) (rd sl (hashV a % pw D)) := by
  obtain ⟨m0, m1, k0, k1⟩ := slot_rng G a
  obtain ⟨⟨hs, _⟩, _, _⟩ := hash_ev a ha
  unfold spec_l8Bucket.f
  exact Ev.bind' _ hs (Ev.bindc _ (low_eq _ D G.D0 G.D1) (Ev.pos m0 (Ev.pos m1 (Ev.now _))))
theorem slotOf_good (G : GoodS D sl bs) (a : ByteArray) (ha : a.size ≤ 1048576) : Ev (fun k => impl_Dir_slotOf.f k D sl bs a) (hashV a % pw D) := by
  have p0 := pw_pos D
  have n := G.n
  have := slotOf_ev (D := D) (bs := bs) (sl := sl) a ha (by omega)
  rwa [n] at this
end
end Go.Proofs.YtfbjeppfnlfejaaDoor.Q
