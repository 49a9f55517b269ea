import Derived.Test.YtcdkgenfggdpaaaStoreLog
import Derived.Test.YtcdkgenfggdpaaaG11
namespace Go.Proofs.Ytcdkgenfggdpaaa.Q
open Go.RowKit Go.Proofs.YtcdkgenfggdpaaaW.PrintWords Go.Proofs.Ytcdkgenfggdpaaa.G
set_option linter.unusedVariables false
set_option linter.unusedSimpArgs false

/-- A loop whose rounds all pass. -/
theorem allRounds {β : Type} {L : Nat → Nat → Option β} {n : Nat} {r : β} (h1 : Ev (fun k => L k n) r) (h2 : ∀ i, i < n → Ev (fun k => L k (i + 1)) r → Ev (fun k => L k i) r) : Ev (fun k => L k 0) r := by
  have key : ∀ d i, n - i = d → i ≤ n → Ev (fun k => L k i) r := by
    intro d
    induction d with
    | zero =>
      intro i hd hi
      have : i = n := by omega
      subst this
      exact h1
    | succ d ih =>
      intro i hd hi
      exact h2 i (by omega) (ih (i + 1) (by omega) (by omega))
  exact key n 0 rfl (by omega)
/-- Sectors after writes. -/
def doneOf (S : List ByteArray) (P : List Wr) : List ByteArray := P.foldl (fun S w => S.set w.f0.toNat w.f1) S
theorem doneOf_len (S : List ByteArray) (P : List Wr) : (doneOf S P).length = S.length := by
  unfold doneOf
  induction P generalizing S with
  | nil => rfl
  | cons w P ih => rw [List.foldl_cons, ih, List.length_set]
theorem doneOf_succ (S : List ByteArray) (P : List Wr) (i : Nat) (h : i < P.length) : doneOf S (P.take (i + 1)) = (doneOf S (P.take i)).set (P.getD i z72).f0.toNat (P.getD i z72).f1 := by
  unfold doneOf
  rw [take_succ_getD P i z72 h, List.foldl_append]
  rfl
/-- All writes lie on the device. -/
def OnDev (n : Nat) (P : List Wr) : Prop := ∀ i, i < P.length → 0 ≤ (P.getD i z72).f0 ∧ (P.getD i z72).f0 < (n : Int)
theorem l1Done_ev (S : List ByteArray) (P : List Wr) (hS : S.length ≤ 1048576) (hP : P.length ≤ 1000000000) (h : OnDev S.length P) : Ev (fun k => spec_l1Done.f k S P) (doneOf S P) := by
  unfold spec_l1Done.f
  refine Ev.bindc _ rfl (Ev.pos (by simp only [List.length_nil]; omega) ?_)
  refine allRounds (L := fun k i => spec_l1Done.l0 k (doneOf S (P.take i)) P (P.length : Int) (i : Int)) (n := P.length) ?_ ?_
  · refine Ev.step (fun k => by rw [spec_l1Done.l0]) ?_
    exact Ev.neg (by omega) (Ev.now' (by rw [List.take_length]))
  · intro i hi next
    have hw := h i hi
    refine Ev.step (fun k => by rw [spec_l1Done.l0]) ?_
    rw [rdiWrite, w64 (x := (i : Int) + 1) (by omega) (by omega)]
    rw [doneOf_succ S P i hi] at next
    exact Ev.pos (by omega) (Ev.pos (by omega) (Ev.pos (by omega) (Ev.pos hw.1 (Ev.pos (by rw [doneOf_len]; exact hw.2) next))))
theorem onDev_of {n : Nat} (hn : 1 ≤ n ∧ n ≤ 32) {P : List Wr} (h : ∀ i, i < P.length → WOk (n : Int) (P.getD i z72)) : OnDev n P := by
  intro i hi
  have h1 := (h i hi).1
  rw [w64 (x := (n : Int) - 1) (by omega) (by omega)] at h1
  omega
theorem wrs_ok {n : Int} {L : List ByteArray} (h : ∀ i, i < L.length → LGood n (L.getD i ByteArray.empty)) : ∀ w, w ∈ wrs L → WOk n w := by
  intro w hw
  unfold wrs at hw
  obtain ⟨t, ht, hw⟩ := List.mem_flatMap.1 hw
  obtain ⟨i, hi, e⟩ := List.mem_iff_getElem.1 ht
  have hg := h i hi
  rw [getD_eq L i _ hi, e] at hg
  obtain ⟨j, hj, e2⟩ := List.mem_iff_getElem.1 hw
  have := (hg.2.1 j hj).1
  rw [getD_eq _ j _ hj, e2] at this
  exact this
theorem getD_take {α : Type} {L : List α} {i n : Nat} {z : α} (h : i < n) : (L.take n).getD i z = L.getD i z := by simp [List.getD_eq_getElem?_getD, h]
theorem lgood_take {n : Int} {L : List ByteArray} (m : Nat) (h : ∀ i, i < L.length → LGood n (L.getD i ByteArray.empty)) : ∀ i, i < (L.take m).length → LGood n ((L.take m).getD i ByteArray.empty) := by
  intro i hi
  rw [List.length_take] at hi
  rw [getD_take (by omega)]
  exact h i (by omega)
theorem wrs_onDev {n : Nat} (hn : 1 ≤ n ∧ n ≤ 32) {L : List ByteArray} (h : ∀ i, i < L.length → LGood (n : Int) (L.getD i ByteArray.empty)) : OnDev n (wrs L) :=
  onDev_of hn fun i hi => wrs_ok h _ (getD_mem _ _ _ hi)
end Go.Proofs.Ytcdkgenfggdpaaa.Q
