import Derived.Test.YtcdkgenfggdpaaaStoreSeen
import Derived.Test.YtcdkgenfggdpaaaG25
namespace Go.Proofs.Ytcdkgenfggdpaaa.Q
open Go.RowKit Go.Proofs.YtcdkgenfggdpaaaW.PrintWords Go.Proofs.Ytcdkgenfggdpaaa.G
set_option linter.unusedVariables false
set_option linter.unusedSimpArgs false

/-- The first writes that are kept. -/
def keptOf (P : List Wr) (K : List Bool) (n : Nat) : List Wr := (List.range n).flatMap (fun i => if K.getD i false = true then [P.getD i z72] else [])
theorem keptOf_succ (P : List Wr) (K : List Bool) (n : Nat) : keptOf P K (n + 1) = keptOf P K n ++ (if K.getD n false = true then [P.getD n z72] else []) := by
  unfold keptOf
  rw [List.range_succ, List.flatMap_append]
  simp
theorem keptOf_len (P : List Wr) (K : List Bool) (n : Nat) : (keptOf P K n).length ≤ n := by
  induction n with
  | zero => simp [keptOf]
  | succ n ih =>
    rw [keptOf_succ, List.length_append]
    split
    · simp only [List.length_singleton]; omega
    · simp only [List.length_nil]; omega
theorem keptOf_mem {P : List Wr} {K : List Bool} {n : Nat} {w : Wr} (h : w ∈ keptOf P K n) : ∃ i, i < n ∧ P.getD i z72 = w := by
  unfold keptOf at h
  obtain ⟨i, hi, h⟩ := List.mem_flatMap.1 h
  rw [List.mem_range] at hi
  by_cases e : K.getD i false = true
  · rw [if_pos e, List.mem_singleton] at h
    exact ⟨i, hi, h.symm⟩
  · rw [if_neg e] at h
    cases h
theorem l1Kept_ev (P : List Wr) (K : List Bool) (hl : K.length = P.length) (hP : P.length ≤ 1000000000) : Ev (fun k => spec_l1Kept.f k P K) (keptOf P K P.length) := by
  unfold spec_l1Kept.f
  refine allRounds (L := fun k i => spec_l1Kept.l0 k K (keptOf P K i) P (P.length : Int) (i : Int)) (n := P.length) ?_ ?_
  · refine Ev.step (fun k => by rw [spec_l1Kept.l0]) ?_
    exact Ev.neg (by omega) (Ev.now _)
  · intro i hi next
    have hk := keptOf_len P K i
    refine Ev.step (fun k => by rw [spec_l1Kept.l0]) ?_
    rw [rdiWrite, rdw_of, w64 (x := (i : Int) + 1) (by omega) (by omega)]
    rw [keptOf_succ] at next
    refine Ev.pos (by omega) (Ev.pos (by omega) (Ev.pos (by omega) (Ev.pos (by omega) ?_)))
    by_cases e : K.getD i false = true
    · rw [if_pos e] at next
      exact Ev.pos e (Ev.pos (by omega) next)
    · rw [if_neg e, List.append_nil] at next
      exact Ev.neg e next
theorem doneOf_append (S : List ByteArray) (P Q : List Wr) : doneOf S (P ++ Q) = doneOf (doneOf S P) Q := by
  unfold doneOf
  rw [List.foldl_append]
theorem crashed_ev (S : List ByteArray) (P : List Wr) (K : List Bool) (hl : K.length = P.length) (hS : S.length ≤ 1048576) (hP : P.length ≤ 1000000000) (h : OnDev S.length P) : Ev (fun k => impl_performed_at_impl_CrashDevice_1.f k S P K) (doneOf S (keptOf P K P.length)) := by
  unfold impl_performed_at_impl_CrashDevice_1.f
  refine Ev.bindc S (by unfold slices_Clone_string_string.f; exact if_pos (by omega)) ?_
  refine allRounds (L := fun k i => impl_performed_at_impl_CrashDevice_1.l0 k (doneOf S (keptOf P K i)) P (P.length : Int) (i : Int) K) (n := P.length) ?_ ?_
  · refine Ev.step (fun k => by rw [impl_performed_at_impl_CrashDevice_1.l0]) ?_
    exact Ev.neg (by omega) (Ev.now _)
  · intro i hi next
    have hw := h i hi
    refine Ev.step (fun k => by rw [impl_performed_at_impl_CrashDevice_1.l0]) ?_
    rw [rdiWrite, w64 (x := (i : Int) + 1) (by omega) (by omega)]
    rw [keptOf_succ, doneOf_append] at next
    refine Ev.pos (by omega) (Ev.pos (by omega) (Ev.pos (by omega) (Ev.bindc (K.getD i false) ?_ ?_)))
    · unfold impl_CrashDevice_1.f
      rw [if_pos (by omega), if_pos (by omega), rdw_of]
    · by_cases e : K.getD i false = true
      · rw [if_pos e] at next
        exact Ev.pos e (Ev.pos hw.1 (Ev.pos (by rw [doneOf_len]; exact hw.2) next))
      · rw [if_neg e] at next
        exact Ev.neg e next
theorem kept_onDev {n : Nat} {P : List Wr} {K : List Bool} {m : Nat} (hm : m ≤ P.length) (h : OnDev n P) : OnDev n (keptOf P K m) := by
  intro i hi
  obtain ⟨j, hj, e⟩ := keptOf_mem (getD_mem _ i z72 hi)
  rw [← e]
  exact h j (by omega)
/-- A crash that both allow. -/
def CrOk (S : List ByteArray) (P : List Wr) (L : List ByteArray) (n : Int) (K : List Bool) (g : Int) : Prop := SOk S P L n ∧ (n ≤ g ∧ g ≤ (L.length : Int)) ∧ K.length = P.length
noncomputable def crashOf (S : List ByteArray) (P : List Wr) (L : List ByteArray) (n : Int) (K : List Bool) (g : Int) : List ByteArray × List Wr × List ByteArray × Int × Bool := by
  classical
  exact if CrOk S P L n K g then (doneOf S (keptOf P K P.length), [], L.take g.toNat, g, true) else ([], [], [], 0, false)
theorem crashOf_yes {S : List ByteArray} {P : List Wr} {L : List ByteArray} {n : Int} {K : List Bool} {g : Int} (h : CrOk S P L n K g) : crashOf S P L n K g = (doneOf S (keptOf P K P.length), [], L.take g.toNat, g, true) := by
  classical
  unfold crashOf
  exact if_pos h
theorem crashOf_no {S : List ByteArray} {P : List Wr} {L : List ByteArray} {n : Int} {K : List Bool} {g : Int} (h : ¬ CrOk S P L n K g) : crashOf S P L n K g = ([], [], [], 0, false) := by
  classical
  unfold crashOf
  exact if_neg h
theorem crash_evs (S : List ByteArray) (P : List Wr) (L : List ByteArray) (n : Int) (K : List Bool) (g : Int) (hS : S.length ≤ 1048576) (hP : P.length ≤ 1048576) (hL : L.length ≤ 1048576) (hK : K.length ≤ 1048576) (sL : Short L) : Ev (fun k => spec_CrashStore.f k S P L n K g) (crashOf S P L n K g) ∧ Ev (fun k => impl_CrashStore.f k S P L n K g) (crashOf S P L n K g) := by
  have h1 := specStore_ev S P L n hS hP hL sL
  have h2 := implStore_ev S P L n hS hP hL sL
  have no : ¬ CrOk S P L n K g → Ev (fun k => spec_CrashStore.j0 k K g true S P L n) (crashOf S P L n K g) ∧ Ev (fun k => impl_CrashStore.j0 k K g true S P L n) (crashOf S P L n K g) := fun h => by
    rw [crashOf_no h]
    exact ⟨Ev.step (fun k => by rw [spec_CrashStore.j0]) (Ev.pos rfl (Ev.now _)), Ev.step (fun k => by rw [impl_CrashStore.j0]) (Ev.pos rfl (Ev.now _))⟩
  unfold spec_CrashStore.f impl_CrashStore.f
  by_cases c1 : SOk S P L n
  · by_cases c2 : n ≤ g ∧ g ≤ (L.length : Int)
    · have hn := c1.1.2.2
      have h40 := c1.1.2.1
      obtain ⟨a, b, c, d⟩ := view_parts c1
      have d1 := specDevice_ev S P (by omega) (by omega)
      have d2 := implDevice_ev S P (by omega) (by omega)
      refine ⟨Ev.bind' _ h1 (Ev.pos (sOk_iff.2 c1) (Ev.bindc _ (specIn_eq _ _ _) ?_)), Ev.bind' _ h2 (Ev.pos (sOk_iff.2 c1) (Ev.bindc _ (within_eq _ _ _) ?_))⟩
      all_goals rw [dec_true c2]
      all_goals by_cases c3 : K.length = P.length
      · refine Ev.step (fun k => by rw [spec_CrashStore.j0]) (Ev.neg (by simp) ?_)
        rw [crashOf_yes ⟨c1, c2, c3⟩]
        refine Ev.bind' (doneOf S (keptOf P K P.length), [], true) ?_ (Ev.pos rfl (Ev.bindc _ rfl (Ev.pos (by omega) (Ev.pos c2.2 (Ev.pos ?_ (Ev.now _))))))
        · unfold spec_CrashDevice.f
          have e : ((K.length : Int) != (P.length : Int)) = false := by rw [bne_eq_false_iff_eq]; omega
          rw [e]
          refine Ev.bind' _ d1 (Ev.pos (dOk_iff.2 c1.1.1) ?_)
          refine Ev.step (fun k => by rw [spec_CrashDevice.j0]) (Ev.neg (by simp) ?_)
          have hk := keptOf_len P K P.length
          exact Ev.bind' _ (l1Kept_ev P K c3 (by omega)) (Ev.bind' _ (l1Done_ev S _ hS (by omega) (kept_onDev (Nat.le_refl _) c)) (Ev.now _))
        · rw [List.length_take]
          simp only [List.length_nil]
          omega
      · refine Ev.step (fun k => by rw [spec_CrashStore.j0]) (Ev.neg (by simp) ?_)
        rw [crashOf_no (fun h => c3 h.2.2)]
        refine Ev.bind' ([], [], false) ?_ (Ev.neg (by simp) (Ev.now _))
        unfold spec_CrashDevice.f
        have e : ((K.length : Int) != (P.length : Int)) = true := by rw [bne_iff_ne]; omega
        rw [e]
        refine Ev.bind' _ d1 (Ev.pos (dOk_iff.2 c1.1.1) ?_)
        exact Ev.step (fun k => by rw [spec_CrashDevice.j0]) (Ev.pos rfl (Ev.now _))
      · refine Ev.step (fun k => by rw [impl_CrashStore.j0]) (Ev.neg (by simp) ?_)
        rw [crashOf_yes ⟨c1, c2, c3⟩]
        refine Ev.bind' (doneOf S (keptOf P K P.length), [], true) ?_ (Ev.pos rfl (Ev.pos (by omega) (Ev.pos c2.2 (Ev.bindc (L.take g.toNat) ?_ (Ev.now _)))))
        · unfold impl_CrashDevice.f
          exact Ev.bind' _ d2 (Ev.pos (dOk_iff.2 c1.1.1) (Ev.pos (by omega) (Ev.bind' _ (crashed_ev S P K c3 hS (by omega) c) (Ev.now _))))
        · unfold slices_Clone_string_string.f
          exact if_pos (by rw [List.length_take]; omega)
      · refine Ev.step (fun k => by rw [impl_CrashStore.j0]) (Ev.neg (by simp) ?_)
        rw [crashOf_no (fun h => c3 h.2.2)]
        refine Ev.bind' ([], [], false) ?_ (Ev.neg (by simp) (Ev.now _))
        unfold impl_CrashDevice.f
        exact Ev.bind' _ d2 (Ev.pos (dOk_iff.2 c1.1.1) (Ev.neg (by omega) (Ev.now _)))
    · obtain ⟨n1, n2⟩ := no (fun h => c2 h.2.1)
      refine ⟨Ev.bind' _ h1 (Ev.pos (sOk_iff.2 c1) (Ev.bindc _ (specIn_eq _ _ _) ?_)), Ev.bind' _ h2 (Ev.pos (sOk_iff.2 c1) (Ev.bindc _ (within_eq _ _ _) ?_))⟩
      · rw [dec_false c2]; exact n1
      · rw [dec_false c2]; exact n2
  · obtain ⟨n1, n2⟩ := no (fun h => c1 h.1)
    exact ⟨Ev.bind' _ h1 (Ev.neg (fun e => c1 (sOk_iff.1 e)) n1), Ev.bind' _ h2 (Ev.neg (fun e => c1 (sOk_iff.1 e)) n2)⟩
theorem crashStore_both (S : List ByteArray) (P : List Wr) (L : List ByteArray) (n : Int) (K : List Bool) (g : Int) (hS : S.length ≤ 1048576) (hP : P.length ≤ 1048576) (hL : L.length ≤ 1048576) (hK : K.length ≤ 1048576) (sS : ∀ i, i < S.length → (S.getD i ByteArray.empty).size ≤ 1048576) (sL : ∀ i, i < L.length → (L.getD i ByteArray.empty).size ≤ 1048576) : ∃ r, Ev (fun k => spec_CrashStore.f k S P L n K g) r ∧ Ev (fun k => impl_CrashStore.f k S P L n K g) r ∧ r.1.length ≤ 2000000 ∧ r.2.1.length ≤ 2000000 ∧ r.2.2.1.length ≤ 2000000 := by
  obtain ⟨h1, h2⟩ := crash_evs S P L n K g hS hP hL hK sL
  refine ⟨_, h1, h2, ?_⟩
  by_cases c1 : CrOk S P L n K g
  · rw [crashOf_yes c1]
    dsimp only
    rw [doneOf_len, List.length_take]
    refine ⟨by omega, by simp, by omega⟩
  · rw [crashOf_no c1]
    simp
end Go.Proofs.Ytcdkgenfggdpaaa.Q
