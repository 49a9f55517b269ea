import Derived.Test.YtcdkgenfggdpaaaStoreSeen
import Derived.Test.YtcdkgenfggdpaaaStorePerf
import Derived.Test.YtcdkgenfggdpaaaG23
namespace Go.Proofs.Ytcdkgenfggdpaaa.Q
open Go.RowKit Go.Proofs.YtcdkgenfggdpaaaW.PrintWords Go.Proofs.Ytcdkgenfggdpaaa.G
set_option linter.unusedVariables false
set_option linter.unusedSimpArgs false

theorem list_ext_getD {α : Type} {a b : List α} (z : α) (hl : a.length = b.length) (h : ∀ i, i < a.length → a.getD i z = b.getD i z) : a = b := by
  apply List.ext_getElem hl
  intro i h1 h2
  have := h i h1
  rwa [getD_eq _ _ _ h1, getD_eq _ _ _ h2] at this
noncomputable def sameB (a b : List ByteArray) : Bool := by
  classical
  exact decide (a = b)
theorem sameB_yes {a b : List ByteArray} (h : a = b) : sameB a b = true := by
  classical
  unfold sameB
  exact decide_eq_true h
theorem sameB_no {a b : List ByteArray} (h : ¬ a = b) : sameB a b = false := by
  classical
  unfold sameB
  exact decide_eq_false h
theorem l11Same_ev (a b : List ByteArray) (hl : a.length = b.length) (ha : a.length ≤ 1000000000) : Ev (fun k => spec_l11Same.f k a b) (sameB a b) := by
  unfold spec_l11Same.f
  refine scan (L := fun k i => spec_l11Same.l0 k a b (a.length : Int) (i : Int)) (n := a.length) (p := fun i => a.getD i ByteArray.empty = b.getD i ByteArray.empty) ?_ ?_ ?_
  · intro h
    refine Ev.step (fun k => by rw [spec_l11Same.l0]) ?_
    refine Ev.neg (by omega) (Ev.now' ?_)
    rw [sameB_yes (list_ext_getD _ hl h), beq_iff_eq]
    omega
  · intro i hi _ hp next
    refine Ev.step (fun k => by rw [spec_l11Same.l0]) ?_
    rw [rdw_of, rdw_of, w64 (x := (i : Int) + 1) (by omega) (by omega)]
    exact Ev.pos (by omega) (Ev.pos (by omega) (Ev.pos (by omega) (Ev.pos (by omega) (Ev.pos (by rw [hp]) next))))
  · intro i hi _ hp
    refine Ev.step (fun k => by rw [spec_l11Same.l0]) ?_
    rw [rdw_of, rdw_of, sameB_no (fun e => hp (by rw [e]))]
    exact Ev.pos (by omega) (Ev.pos (by omega) (Ev.pos (by omega) (Ev.pos (by omega) (Ev.neg (fun e => hp (ba_inj e)) (Ev.now _)))))
theorem sEqual_ev (a b : List ByteArray) (hl : a.length = b.length) (ha : a.length ≤ 1000000000) : Ev (fun k => slices_Equal_string_string.f k a b) (sameB a b) := by
  unfold slices_Equal_string_string.f
  refine Ev.pos (by omega) ?_
  refine scan (L := fun k i => slices_Equal_string_string.l0 k a b (a.length : Int) (i : Int)) (n := a.length) (p := fun i => a.getD i ByteArray.empty = b.getD i ByteArray.empty) ?_ ?_ ?_
  · intro h
    refine Ev.step (fun k => by rw [slices_Equal_string_string.l0]) ?_
    exact Ev.neg (by omega) (Ev.now' (sameB_yes (list_ext_getD _ hl h)).symm)
  · intro i hi _ hp next
    refine Ev.step (fun k => by rw [slices_Equal_string_string.l0]) ?_
    rw [rdw_of, rdw_of, w64 (x := (i : Int) + 1) (by omega) (by omega)]
    exact Ev.pos (by omega) (Ev.pos (by omega) (Ev.pos (by omega) (Ev.pos (by omega) (Ev.pos (by rw [hp]) next))))
  · intro i hi _ hp
    refine Ev.step (fun k => by rw [slices_Equal_string_string.l0]) ?_
    rw [rdw_of, rdw_of, sameB_no (fun e => hp (by rw [e]))]
    exact Ev.pos (by omega) (Ev.pos (by omega) (Ev.pos (by omega) (Ev.pos (by omega) (Ev.neg (fun e => hp (ba_inj e)) (Ev.now _)))))
/-- What both answer to a checkpoint. -/
noncomputable def chkOf (S : List ByteArray) (P : List Wr) (L : List ByteArray) (n : Int) : List ByteArray × List Wr × List ByteArray × Int × Bool := by
  classical
  exact if SOk S P L n ∧ doneOf (doneOf S P) (wrs (L.take n.toNat)) = doneOf S P then (doneOf S P, [], L.drop n.toNat, 0, true) else ([], [], [], 0, false)
theorem chkOf_yes {S : List ByteArray} {P : List Wr} {L : List ByteArray} {n : Int} (h : SOk S P L n) (h2 : doneOf (doneOf S P) (wrs (L.take n.toNat)) = doneOf S P) : chkOf S P L n = (doneOf S P, [], L.drop n.toNat, 0, true) := by
  classical
  unfold chkOf
  exact if_pos ⟨h, h2⟩
theorem chkOf_no {S : List ByteArray} {P : List Wr} {L : List ByteArray} {n : Int} (h : ¬ (SOk S P L n ∧ doneOf (doneOf S P) (wrs (L.take n.toNat)) = doneOf S P)) : chkOf S P L n = ([], [], [], 0, false) := by
  classical
  unfold chkOf
  exact if_neg h
theorem chk_evs (S : List ByteArray) (P : List Wr) (L : List ByteArray) (n : Int) (hS : S.length ≤ 1048576) (hP : P.length ≤ 1048576) (hL : L.length ≤ 1048576) (sL : Short L) : Ev (fun k => spec_CheckpointLog.f k S P L n) (chkOf S P L n) ∧ Ev (fun k => impl_CheckpointLog.f k S P L n) (chkOf S P L n) := by
  have h1 := specStore_ev S P L n hS hP hL sL
  have h2 := implStore_ev S P L n hS hP hL sL
  unfold spec_CheckpointLog.f impl_CheckpointLog.f
  by_cases c1 : SOk S P L n
  · obtain ⟨a, b, c, d⟩ := view_parts c1
    have hn := c1.1.2.2
    have hlt : (L.take n.toNat).length ≤ L.length := by rw [List.length_take]; omega
    have hw := wrs_len (L.take n.toNat)
    have h40 := c1.1.2.1
    have hD : OnDev (doneOf S P).length (wrs (L.take n.toNat)) := by
      rw [doneOf_len]
      exact wrs_onDev (sok_dev c1).1 (lgood_take _ c1.2.1)
    have hf : Ev (fun k => spec_FlushDevice.f k S P) (doneOf S P, [], true) := by
      unfold spec_FlushDevice.f
      exact Ev.bind' _ (specDevice_ev S P (by omega) (by omega)) (Ev.pos (dOk_iff.2 c1.1.1) (Ev.bind' _ (l1Done_ev S P a.1 a.2 c) (Ev.now _)))
    have e1 := l11Same_ev (doneOf S P) (doneOf (doneOf S P) (wrs (L.take n.toNat))) (by rw [doneOf_len (doneOf S P)]) (by omega)
    have e2 := sEqual_ev (doneOf (doneOf S P) (wrs (L.take n.toNat))) (doneOf S P) (by rw [doneOf_len (doneOf S P)]) (by rw [doneOf_len]; omega)
    have w1 := (l11Writes_ev (L.take n.toNat) (by omega) (short_take sL _) (S.length : Int)).1 (lgood_take _ c1.2.1)
    have w2 := writesOf_ev (L.take n.toNat) (by omega) (short_take sL _)
    have p1 := performed_ev S P a.1 a.2 c
    have p2 := changedBy_ev (doneOf S P) (wrs (L.take n.toNat)) b.1 (by omega) hD
    have p3 := l1Done_ev (doneOf S P) (wrs (L.take n.toNat)) b.1 (by omega) hD
    have hdl : (L.drop n.toNat).length ≤ 40 := by rw [List.length_drop]; omega
    by_cases c2 : doneOf (doneOf S P) (wrs (L.take n.toNat)) = doneOf S P
    · rw [chkOf_yes c1 c2]
      rw [sameB_yes c2.symm] at e1
      rw [sameB_yes c2] at e2
      constructor
      · refine Ev.bind' _ h1 (Ev.pos (sOk_iff.2 c1) (Ev.pos hn.1 (Ev.pos hn.2 (Ev.bind' _ w1 (Ev.bind' _ hf (Ev.bind' _ p3 (Ev.bind' _ e1 (Ev.pos rfl (Ev.bindc _ rfl ?_)))))))))
        exact Ev.pos (by simp only [List.length_nil]; omega) (Ev.now _)
      · refine Ev.bind' _ h2 (Ev.pos (sOk_iff.2 c1) (Ev.bind' _ p1 (Ev.pos hn.1 (Ev.pos hn.2 (Ev.bind' _ w2 (Ev.bind' _ p2 (Ev.bind' _ e2 (Ev.pos rfl (Ev.bindc (L.drop n.toNat) ?_ (Ev.now _))))))))))
        unfold slices_Clone_string_string.f
        exact if_pos (by omega)
    · rw [chkOf_no (fun h => c2 h.2)]
      rw [sameB_no (fun e => c2 e.symm)] at e1
      rw [sameB_no c2] at e2
      exact ⟨Ev.bind' _ h1 (Ev.pos (sOk_iff.2 c1) (Ev.pos hn.1 (Ev.pos hn.2 (Ev.bind' _ w1 (Ev.bind' _ hf (Ev.bind' _ p3 (Ev.bind' _ e1 (Ev.neg (by simp) (Ev.now _))))))))), Ev.bind' _ h2 (Ev.pos (sOk_iff.2 c1) (Ev.bind' _ p1 (Ev.pos hn.1 (Ev.pos hn.2 (Ev.bind' _ w2 (Ev.bind' _ p2 (Ev.bind' _ e2 (Ev.neg (by simp) (Ev.now _)))))))))⟩
  · rw [chkOf_no (fun h => c1 h.1)]
    exact ⟨Ev.bind' _ h1 (Ev.neg (fun e => c1 (sOk_iff.1 e)) (Ev.now _)), Ev.bind' _ h2 (Ev.neg (fun e => c1 (sOk_iff.1 e)) (Ev.now _))⟩
theorem checkpointLog_both (S : List ByteArray) (P : List Wr) (L : List ByteArray) (n : Int) (hS : S.length ≤ 1048576) (hP : P.length ≤ 1048576) (hL : L.length ≤ 1048576) (sS : ∀ i, i < S.length → (S.getD i ByteArray.empty).size ≤ 1048576) (sL : ∀ i, i < L.length → (L.getD i ByteArray.empty).size ≤ 1048576) : ∃ r, Ev (fun k => spec_CheckpointLog.f k S P L n) r ∧ Ev (fun k => impl_CheckpointLog.f k S P L n) r ∧ r.1.length ≤ 2000000 ∧ r.2.1.length ≤ 2000000 ∧ r.2.2.1.length ≤ 2000000 := by
  obtain ⟨h1, h2⟩ := chk_evs S P L n hS hP hL sL
  refine ⟨_, h1, h2, ?_⟩
  by_cases c1 : SOk S P L n ∧ doneOf (doneOf S P) (wrs (L.take n.toNat)) = doneOf S P
  · rw [chkOf_yes c1.1 c1.2]
    dsimp only
    rw [doneOf_len, List.length_drop]
    refine ⟨by omega, by simp, by omega⟩
  · rw [chkOf_no c1]
    simp
end Go.Proofs.Ytcdkgenfggdpaaa.Q
