/- NewRing of the reference and of the program: the same ring. -/
import Derived.Test.YthlifcbkpafofaaDoorRingGood
import Derived.Test.YthlifcbkpafofaaDoorG4
import Derived.Test.YthlifcbkpafofaaDoorG5
namespace Go.Proofs.YthlifcbkpafofaaDoor.Q
open Go.RowKit Go.Proofs.YthlifcbkpafofaaDoorW.PrintWords Go.Proofs.YthlifcbkpafofaaDoor.G
set_option linter.unusedVariables false
theorem new_loop (z : Int) (hz : Ev (fun k => spec_l10Zero.f k) (0, 0, (⟨#[]⟩ : ByteArray), z)) (n a b c : Int) (hn : n ≤ 24) : ∀ (m : Nat) (x : Int) (acc : List S26), (n - x).toNat = m → 0 ≤ x → acc.length ≤ x.toNat → x ≤ n →
    Ev (fun k => spec_NewRing.l0 k n x acc a b c) (acc ++ List.replicate m (⟨0, 0, ⟨#[]⟩, z⟩ : S26), a, b, c, true) := by
  intro m
  induction m with
  | zero =>
    intro x acc hm hx ha hxn
    rw [List.replicate_zero, List.append_nil]
    exact Ev.step (fun k => by rw [spec_NewRing.l0]) (Ev.neg (by omega) (Ev.now _))
  | succ m ih =>
    intro x acc hm hx ha hxn
    have hw : wrap64 (x + 1) = x + 1 := w64 (by omega) (by omega)
    have h := ih (x + 1) (acc ++ [(⟨0, 0, ⟨#[]⟩, z⟩ : S26)]) (by omega) (by omega) (by rw [List.length_append, List.length_singleton]; omega) (by omega)
    rw [List.append_assoc, List.singleton_append, ← List.replicate_succ] at h
    refine Ev.step (fun k => by rw [spec_NewRing.l0]) (Ev.pos (by omega) (Ev.bind' _ hz (Ev.pos (show acc.length < 3518437208883 by omega) ?_)))
    rw [hw]
    exact h
theorem newRing_full (n : Int) : ∃ r, Ev (fun k => spec_NewRing.f k n) r ∧ Ev (fun k => impl_NewRing.f k n) r ∧ r.1.length ≤ 2000000 ∧ (2 ≤ n ∧ n ≤ 24 → (r.1.length : Int) = n ∧ r.2 = (0, 1, 0, true)) ∧ (¬ (2 ≤ n ∧ n ≤ 24) → r = ([], 0, 0, 0, false)) := by
  unfold spec_NewRing.f impl_NewRing.f
  by_cases c1 : 2 ≤ n ∧ n ≤ 24
  · obtain ⟨z, h1, h2⟩ := zero_evs
    have hl := new_loop z h1 n 0 1 0 c1.2 n.toNat 0 [] (by omega) (Int.le_refl _) (by simp) (by omega)
    rw [List.nil_append] at hl
    refine ⟨_, Ev.bindc _ (in_eq _ _ _) (Ev.pos (by simpa using c1) hl), Ev.bindc _ (within_eq' _ _ _) (Ev.pos (by simpa using c1) (Ev.bind' _ h2 (Ev.bindc (List.replicate n.toNat (⟨0, 0, ⟨#[]⟩, z⟩ : S26)) ?_ (Ev.now _)))), ?_, fun _ => ⟨?_, rfl⟩, fun h => absurd c1 h⟩
    · first | unfold impl_Slot_61.f | unfold impl_Slot.f
      rw [if_pos (by refine ⟨rfl, by omega, by omega, by omega⟩)]
      rfl
    · rw [List.length_replicate]; omega
    · rw [List.length_replicate]; omega
  · exact ⟨([], 0, 0, 0, false), Ev.bindc _ (in_eq _ _ _) (Ev.neg (by simpa using c1) (Ev.now _)), Ev.bindc _ (within_eq' _ _ _) (Ev.neg (by simpa using c1) (Ev.now _)), by simp, fun h => absurd h c1, fun _ => rfl⟩
theorem newRing_both (n : Int) : ∃ r, Ev (fun k => spec_NewRing.f k n) r ∧ Ev (fun k => impl_NewRing.f k n) r ∧ r.1.length ≤ 2000000 := by
  obtain ⟨r, a, b, c, _⟩ := newRing_full n
  exact ⟨r, a, b, c⟩
end Go.Proofs.YthlifcbkpafofaaDoor.Q
