import Derived.Test.YtcdkgenfggdpaaaStoreDone
import Derived.Test.YtcdkgenfggdpaaaStoreGood
import Derived.Test.YtcdkgenfggdpaaaStoreOwn
import Derived.Test.YtcdkgenfggdpaaaG23
namespace Go.Proofs.Ytcdkgenfggdpaaa.Q
open Go.RowKit Go.Proofs.YtcdkgenfggdpaaaW.PrintWords Go.Proofs.Ytcdkgenfggdpaaa.G
set_option linter.unusedVariables false
set_option linter.unusedSimpArgs false

theorem dok_app {S : List ByteArray} {P Y : List Wr} (h : DOk S P) (hY : ∀ w, w ∈ Y → WOk (S.length : Int) w) (hl : P.length + Y.length ≤ 60) : DOk S (P ++ Y) := by
  refine ⟨⟨h.1.1, fun i hi => ?_⟩, h.2.1, by rw [List.length_append]; exact hl⟩
  rcases List.mem_append.1 (getD_mem (P ++ Y) i z72 hi) with hm | hm
  · obtain ⟨j, hj, e⟩ := mem_getD.1 hm
    rw [← e]
    exact h.1.2 j hj
  · exact hY _ hm
theorem ownD_spec (S : List ByteArray) (P : List Wr) (hS : S.length ≤ 1048576) (hP : P.length ≤ 1048576) : spec_l1Own.f S P = some (S, P) := by
  unfold spec_l1Own.f
  simp only [Option.bind_some, List.nil_append, List.length_nil, Nat.zero_add]
  rw [if_pos (by omega), if_pos (by omega)]
/-- What both answer to a write-back. -/
noncomputable def backOf (S : List ByteArray) (P : List Wr) (L : List ByteArray) (n : Int) : List ByteArray × List Wr × List ByteArray × Int × Bool := by
  classical
  exact if SOk S P L n ∧ P.length + (wrs (L.take n.toNat)).length ≤ 60 then (S, P ++ wrs (L.take n.toNat), L, n, true) else ([], [], [], 0, false)
theorem back_loop (S : List ByteArray) (P W : List Wr) (L : List ByteArray) (n : Int) (hd : DOk S P) (hW : ∀ w, w ∈ W → WOk (S.length : Int) w) (hl : W.length ≤ 1000000) :
    Ev (fun k => spec_l11Back.l0 k W (W.length : Int) 0 S P L n) (if P.length + W.length ≤ 60 then (S, P ++ W, L, n, true) else ([], [], [], 0, false)) := by
  have hS := hd.2.1
  have hP := hd.2.2
  have loop := scan (L := fun k i => spec_l11Back.l0 k W (W.length : Int) (i : Int) S (P ++ W.take i) L n) (n := W.length) (p := fun i => P.length + i < 60) (r := if P.length + W.length ≤ 60 then (S, P ++ W, L, n, true) else ([], [], [], 0, false)) ?_ ?_ ?_
  · simpa using loop
  · intro h
    have hle : P.length + W.length ≤ 60 := by
      rcases Nat.eq_zero_or_pos W.length with e | e
      · omega
      · have := h (W.length - 1) (by omega); omega
    rw [if_pos hle]
    refine Ev.step (fun k => by rw [spec_l11Back.l0]) ?_
    exact Ev.neg (by omega) (Ev.now' (by rw [List.take_length]))
  · intro i hi _ hp next
    have hw := hW _ (getD_mem W i z72 hi)
    have hdi : DOk S (P ++ W.take i) := dok_app hd (fun w hw => hW w (List.mem_of_mem_take hw)) (by rw [List.length_take]; omega)
    have hpl : (P ++ W.take i).length = P.length + i := by rw [List.length_append, List.length_take]; omega
    have hst : Ev (fun k => spec_WriteSector.f k S (P ++ W.take i) (W.getD i z72).f0 (W.getD i z72).f1) (S, (P ++ W.take i) ++ [W.getD i z72], true) := by
      unfold spec_WriteSector.f
      refine Ev.bind' _ (specDevice_ev S _ (by omega) (by omega)) (Ev.pos (dOk_iff.2 hdi) (Ev.bindc _ (specWrite_eq _ _) (Ev.pos (decide_eq_true hw) ?_)))
      refine Ev.neg (by omega) (Ev.bindc _ (ownD_spec S _ (by omega) (by omega)) (Ev.pos (by show (P ++ W.take i).length < 5864062014805; omega) (Ev.now _)))
    refine Ev.step (fun k => by rw [spec_l11Back.l0]) ?_
    rw [rdiWrite, w64 (x := (i : Int) + 1) (by omega) (by omega)]
    refine Ev.pos (by omega) (Ev.pos (by omega) (Ev.pos (by omega) (Ev.bind' _ hst (Ev.pos rfl ?_))))
    rw [take_succ_getD W i z72 hi, ← List.append_assoc] at next
    exact next
  · intro i hi hb hp
    have hno : ¬ P.length + W.length ≤ 60 := by omega
    rw [if_neg hno]
    have h60 : P.length + i = 60 := by
      rcases Nat.eq_zero_or_pos i with e | e
      · omega
      · have := hb (i - 1) (by omega); omega
    have hw := hW _ (getD_mem W i z72 hi)
    have hdi : DOk S (P ++ W.take i) := dok_app hd (fun w hw => hW w (List.mem_of_mem_take hw)) (by rw [List.length_take]; omega)
    have hpl : (P ++ W.take i).length = P.length + i := by rw [List.length_append, List.length_take]; omega
    have hst : Ev (fun k => spec_WriteSector.f k S (P ++ W.take i) (W.getD i z72).f0 (W.getD i z72).f1) ([], [], false) := by
      unfold spec_WriteSector.f
      refine Ev.bind' _ (specDevice_ev S _ (by omega) (by omega)) (Ev.pos (dOk_iff.2 hdi) (Ev.bindc _ (specWrite_eq _ _) (Ev.pos (decide_eq_true hw) ?_)))
      exact Ev.pos (by omega) (Ev.now _)
    refine Ev.step (fun k => by rw [spec_l11Back.l0]) ?_
    rw [rdiWrite, w64 (x := (i : Int) + 1) (by omega) (by omega)]
    exact Ev.pos (by omega) (Ev.pos (by omega) (Ev.pos (by omega) (Ev.bind' _ hst (Ev.neg (by simp) (Ev.now _)))))
theorem backOf_yes {S : List ByteArray} {P : List Wr} {L : List ByteArray} {n : Int} (h : SOk S P L n) : backOf S P L n = if P.length + (wrs (L.take n.toNat)).length ≤ 60 then (S, P ++ wrs (L.take n.toNat), L, n, true) else ([], [], [], 0, false) := by
  classical
  unfold backOf
  by_cases h2 : P.length + (wrs (L.take n.toNat)).length ≤ 60
  · rw [if_pos ⟨h, h2⟩, if_pos h2]
  · rw [if_neg (fun e => h2 e.2), if_neg h2]
theorem backOf_no {S : List ByteArray} {P : List Wr} {L : List ByteArray} {n : Int} (h : ¬ SOk S P L n) : backOf S P L n = ([], [], [], 0, false) := by
  classical
  unfold backOf
  exact if_neg (fun e => h e.1)
theorem back_evs (S : List ByteArray) (P : List Wr) (L : List ByteArray) (n : Int) (hS : S.length ≤ 1048576) (hP : P.length ≤ 1048576) (hL : L.length ≤ 1048576) (sL : Short L) : Ev (fun k => spec_WriteBack.f k S P L n) (backOf S P L n) ∧ Ev (fun k => impl_WriteBack.f k S P L n) (backOf S P L n) := by
  have h1 := specStore_ev S P L n hS hP hL sL
  have h2 := implStore_ev S P L n hS hP hL sL
  unfold spec_WriteBack.f impl_WriteBack.f
  by_cases c1 : SOk S P L n
  · have hn := c1.1.2.2
    have h40 := c1.1.2.1
    have h60 := c1.1.1.2.2
    have hlt : (L.take n.toNat).length ≤ L.length := by rw [List.length_take]; omega
    have hwl := wrs_len (L.take n.toNat)
    have hW := wrs_ok (lgood_take n.toNat c1.2.1)
    have w1 := (l11Writes_ev (L.take n.toNat) (by omega) (short_take sL _) (S.length : Int)).1 (lgood_take _ c1.2.1)
    have w2 := writesOf_ev (L.take n.toNat) (by omega) (short_take sL _)
    have hb := back_loop S P (wrs (L.take n.toNat)) L n c1.1.1 hW (by omega)
    rw [backOf_yes c1]
    constructor
    · refine Ev.bind' _ h1 (Ev.pos (sOk_iff.2 c1) (Ev.bindc _ (own_spec S P L n hS hP hL) (Ev.bind' _ ?_ (Ev.now _))))
      unfold spec_l11Back.f
      exact Ev.pos hn.1 (Ev.pos hn.2 (Ev.bind' _ w1 hb))
    · refine Ev.bind' _ h2 (Ev.pos (sOk_iff.2 c1) (Ev.bindc _ (own_impl S P L n hS hP hL) (Ev.pos hn.1 (Ev.pos hn.2 (Ev.bind' _ w2 (Ev.pos (by show P.length + (wrs (L.take n.toNat)).length < 5864062014805; omega) (Ev.bindc _ rfl ?_)))))))
      have hg := implDevice_ev S (P ++ wrs (L.take n.toNat)) (by omega) (by rw [List.length_append]; omega)
      refine Ev.bind' _ hg ?_
      by_cases c2 : P.length + (wrs (L.take n.toNat)).length ≤ 60
      · rw [if_pos c2]
        exact Ev.pos (dOk_iff.2 (dok_app c1.1.1 hW c2)) (Ev.now _)
      · rw [if_neg c2]
        refine Ev.neg (fun e => c2 ?_) (Ev.now _)
        have := (dOk_iff.1 e).2.2
        rw [List.length_append] at this
        exact this
  · rw [backOf_no c1]
    exact ⟨Ev.bind' _ h1 (Ev.neg (fun e => c1 (sOk_iff.1 e)) (Ev.now _)), Ev.bind' _ h2 (Ev.neg (fun e => c1 (sOk_iff.1 e)) (Ev.now _))⟩
theorem writeBack_both (S : List ByteArray) (P : List Wr) (L : List ByteArray) (n : Int) (hS : S.length ≤ 1048576) (hP : P.length ≤ 1048576) (hL : L.length ≤ 1048576) (sS : ∀ i, i < S.length → (S.getD i ByteArray.empty).size ≤ 1048576) (sL : ∀ i, i < L.length → (L.getD i ByteArray.empty).size ≤ 1048576) : ∃ r, Ev (fun k => spec_WriteBack.f k S P L n) r ∧ Ev (fun k => impl_WriteBack.f k S P L n) r ∧ r.1.length ≤ 2000000 ∧ r.2.1.length ≤ 2000000 ∧ r.2.2.1.length ≤ 2000000 := by
  obtain ⟨h1, h2⟩ := back_evs S P L n hS hP hL sL
  refine ⟨_, h1, h2, ?_⟩
  by_cases c1 : SOk S P L n
  · rw [backOf_yes c1]
    split
    · rename_i h
      dsimp only
      rw [List.length_append]
      omega
    · simp
  · rw [backOf_no c1]
    simp
end Go.Proofs.Ytcdkgenfggdpaaa.Q
