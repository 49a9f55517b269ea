/- NewStore of the reference and of the program: the same store. -/
import Derived.Test.YtdclpgcmeabmbaaKit
import Derived.Test.YtdclpgcmeabmbaaG1
namespace Go.Proofs.Ytdclpgcmeabmbaa.Q
open Go.RowKit Go.Proofs.YtdclpgcmeabmbaaW.PrintWords Go.Proofs.Ytdclpgcmeabmbaa.G
set_option linter.unusedVariables false
theorem nin_eq (x lo hi : Int) : spec_l1In.f x lo hi = some (decide (lo ≤ x ∧ x ≤ hi)) := by
  unfold spec_l1In.f
  by_cases h : x ≥ lo
  · rw [if_pos h]; simp [show lo ≤ x from h]
  · rw [if_neg h]; simp [show ¬ lo ≤ x from h]
theorem nwithin_eq (x lo hi : Int) : impl_within.f x lo hi = some (decide (lo ≤ x ∧ x ≤ hi)) := by
  unfold impl_within.f
  by_cases h : x ≥ lo
  · rw [if_pos h]; simp [show lo ≤ x from h]
  · rw [if_neg h]; simp [show ¬ lo ≤ x from h]
def zeros8 : ByteArray := ⟨#[0, 0, 0, 0, 0, 0, 0, 0]⟩
theorem zeros_s : spec_l1Zeros.f 8 = some zeros8 := by
  unfold spec_l1Zeros.f
  rw [if_pos (by decide), if_pos (by decide)]
  rfl
theorem zeros_i : strings_Repeat.f (⟨#[0]⟩ : ByteArray) 8 = some zeros8 := by
  unfold strings_Repeat.f
  rw [if_pos (by decide)]
  rfl
theorem newDev_loop (n : Int) (hn : n ≤ 32) : ∀ (m : Nat) (x : Int) (acc : List ByteArray), (n - x).toNat = m → 0 ≤ x → acc.length ≤ x.toNat → x ≤ n →
    Ev (fun k => spec_NewDevice.l0 k n x acc) (acc ++ List.replicate m zeros8, [], true) := by
  intro m
  induction m with
  | zero =>
    intro x acc hm hx ha hxn
    rw [List.replicate_zero, List.append_nil]
    exact Ev.step (fun k => by rw [spec_NewDevice.l0]) (Ev.neg (by omega) (Ev.now _))
  | succ m ih =>
    intro x acc hm hx ha hxn
    have hw : wrap64 (x + 1) = x + 1 := w64 (by omega) (by omega)
    have h := ih (x + 1) (acc ++ [zeros8]) (by omega) (by omega) (by rw [List.length_append, List.length_singleton]; omega) (by omega)
    rw [List.append_assoc, List.singleton_append, ← List.replicate_succ] at h
    refine Ev.step (fun k => by rw [spec_NewDevice.l0]) (Ev.pos (by omega) (Ev.bindc _ zeros_s (Ev.pos (show acc.length < 8796093022208 by omega) ?_)))
    rw [hw]
    exact h
theorem newStore_both (n : Int) : ∃ r, Ev (fun k => spec_NewStore.f k n) r ∧ Ev (fun _ => impl_NewStore.f n) r ∧ r.1.length ≤ 2000000 ∧ r.2.1.length ≤ 2000000 ∧ r.2.2.1.length ≤ 2000000 := by
  unfold spec_NewStore.f impl_NewStore.f spec_NewDevice.f impl_NewDevice.f
  by_cases c1 : 1 ≤ n ∧ n ≤ 32
  · have hl := newDev_loop n c1.2 n.toNat 0 [] (by omega) (Int.le_refl _) (by simp) (by omega)
    rw [List.nil_append] at hl
    refine ⟨(List.replicate n.toNat zeros8, [], [], 0, true), Ev.bind' (List.replicate n.toNat zeros8, [], true) (Ev.bindc _ (nin_eq _ _ _) (Ev.pos (by simpa using c1) hl)) (Ev.pos rfl (Ev.now _)),
      Ev.bind' (List.replicate n.toNat zeros8, [], true) (Ev.bindc _ (nwithin_eq _ _ _) (Ev.pos (by simpa using c1) (Ev.bindc _ zeros_i (Ev.bindc (List.replicate n.toNat zeros8) ?_ (Ev.now _))))) (Ev.now _), ?_, by simp, by simp⟩
    · unfold slices_Repeat_string_string.f
      rw [if_pos (by refine ⟨rfl, by omega, by omega, by omega⟩)]
      rfl
    · rw [List.length_replicate]; omega
  · exact ⟨([], [], [], 0, false), Ev.bind' _ (Ev.bindc _ (nin_eq _ _ _) (Ev.neg (by simpa using c1) (Ev.now _))) (Ev.neg Bool.false_ne_true (Ev.now _)), Ev.bind' _ (Ev.bindc _ (nwithin_eq _ _ _) (Ev.neg (by simpa using c1) (Ev.now _))) (Ev.now _), by simp, by simp, by simp⟩
end Go.Proofs.Ytdclpgcmeabmbaa.Q
