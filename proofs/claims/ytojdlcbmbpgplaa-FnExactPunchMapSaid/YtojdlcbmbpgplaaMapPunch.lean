import Derived.Test.YtojdlcbmbpgplaaMapParts
import Derived.Test.YtojdlcbmbpgplaaMapStretch
import Derived.Test.YtojdlcbmbpgplaaMapBlocks
import Derived.Test.YtojdlcbmbpgplaaG13
import Derived.Test.YtojdlcbmbpgplaaG23
namespace Go.Proofs.Ytojdlcbmbpgplaa.Q
open Go.RowKit Go.Proofs.YtojdlcbmbpgplaaW.PrintWords Go.Proofs.Ytojdlcbmbpgplaa.G
set_option linter.unusedVariables false
set_option linter.unusedSimpArgs false

theorem cut_len (l : List Pc) (a b : Nat) (h : a + b ≤ 200) : (((cellsOf l).take (a + b)).drop a).length = b := by
  rw [List.length_drop, List.length_take, cellsOf_length]; omega
theorem cut_get (l : List Pc) (a b n : Nat) (h : a + b ≤ 200) (hn : n < b) : (((cellsOf l).take (a + b)).drop a).getD n z78 = cellAt l (a + n) := by
  rw [← cellsOf_get l (a + n) (by omega)]
  simp only [List.getD_eq_getElem?_getD, List.getElem?_drop, List.getElem?_take]
  rw [if_pos (by omega)]
theorem cleared_len (l : List Pc) (a b : Nat) (h : a + b ≤ 200) : ((cellsOf l).take a ++ List.replicate b z78 ++ (cellsOf l).drop (a + b)).length = 200 := by
  rw [List.length_append, List.length_append, List.length_take, List.length_replicate, List.length_drop, cellsOf_length]; omega
theorem cleared_get (l : List Pc) (a b n : Nat) (h : a + b ≤ 200) (hn : n < 200) : ((cellsOf l).take a ++ List.replicate b z78 ++ (cellsOf l).drop (a + b)).getD n z78 = if a ≤ n ∧ n < a + b then z78 else cellAt l n := by
  have e := cellsOf_get l n hn
  have hl := cellsOf_length l
  simp only [List.getD_eq_getElem?_getD] at e ⊢
  have h1 : ((cellsOf l).take a).length = a := by rw [List.length_take]; omega
  have h2 : ((cellsOf l).take a ++ List.replicate b z78).length = a + b := by rw [List.length_append, h1, List.length_replicate]
  by_cases c1 : n < a
  · rw [if_neg (by omega), List.getElem?_append_left (by omega), List.getElem?_append_left (by omega), List.getElem?_take, if_pos c1]
    exact e
  · by_cases c2 : n < a + b
    · rw [if_pos (by omega), List.getElem?_append_left (by omega), List.getElem?_append_right (by omega), h1, List.getElem?_replicate, if_pos (by omega)]
      rfl
    · rw [if_neg (by omega), List.getElem?_append_right (by omega), h2, List.getElem?_drop, show a + b + (n - (a + b)) = n by omega]
      exact e
theorem punchMap_both (l : List Pc) (a b : Int) (hl : l.length ≤ 1048576) : ∃ r, Ev (fun k => spec_PunchMap.f k l a b) r ∧ Ev (fun k => impl_PunchMap.f k l a b) r ∧ r.1.length ≤ 2000000 ∧ r.2.1.length ≤ 2000000 := by
  have g1 := spec_GoodMap_ev l hl
  have n1 : Ev (fun k => spec_PunchMap.j0 k a b true l) ([], [], false) := Ev.step (fun k => by rw [spec_PunchMap.j0]) (Ev.pos rfl (Ev.now _))
  obtain ⟨x, hx1, hx2⟩ := stretch_eq a b
  obtain ⟨y, hy1, hy2⟩ := isRange_ev l hl a b
  unfold spec_PunchMap.f impl_PunchMap.f
  by_cases hg : Good l
  · by_cases hs : Str a b
    · obtain rfl : x = true := hx2.2 hs
      obtain rfl : y = true := hy2.2 ⟨hg, hs⟩
      have hc := good_canon hg.2
      unfold Str at hs
      obtain ⟨a', rfl⟩ : ∃ a' : Nat, a = (a' : Int) := ⟨a.toNat, by omega⟩
      obtain ⟨b', rfl⟩ : ∃ b' : Nat, b = (b' : Int) := ⟨b.toNat, by omega⟩
      obtain ⟨o, q, hcut, inv⟩ := cut_ev l hc (a' : Int) (b' : Int) (by omega) (by omega) (by omega)
      obtain ⟨E, hE1, hE2, hE3⟩ := cut_extents hg (by omega) (by omega) inv
      have hab : a' + b' ≤ 200 := by omega
      have hol := ord_length inv.co.1
      have hmap := mapOf_ev ((cellsOf l).take a' ++ List.replicate b' z78 ++ (cellsOf l).drop (a' + b')) o inv.co (by rw [cleared_len l _ _ hab]; omega) (fun i hi => by
        rw [cleared_len l _ _ hab]
        have h2 := inv.co.1.1 i hi
        unfold InR at h2
        omega) (fun n hn => by
        rw [cleared_len l _ _ hab] at hn
        rw [cleared_get l _ _ _ hab hn, cut_out hc inv n]
        by_cases e : a' ≤ n ∧ n < a' + b'
        · rw [if_pos e, if_pos (by omega)]
        · rw [if_neg e, if_neg (by omega)])
      have hblk := blocksIn_ev (((cellsOf l).take (a' + b')).drop a') (by rw [cut_len l _ _ hab]; omega) (fun n hn hf => by
        rw [cut_len l _ _ hab] at hn
        rw [cut_get l _ _ _ hab hn] at hf ⊢
        exact cell_range hc.1 _ hf) E hE2 (fun b hb => by
        rw [hE3 b, cut_len l _ _ hab]
        constructor
        · rintro ⟨n, hin, hf, e⟩
          refine ⟨n - a', by omega, ?_, ?_⟩
          · rw [cut_get l _ _ _ hab (by omega), show a' + (n - a') = n by omega]; exact hf
          · rw [cut_get l _ _ _ hab (by omega), show a' + (n - a') = n by omega]; exact e
        · rintro ⟨n, hn, hf, e⟩
          rw [cut_get l _ _ _ hab hn] at hf e
          exact ⟨a' + n, by omega, hf, e⟩)
      have hel := eord_length hE2.1
      refine ⟨if Good o then (o, E, true) else ([], [], false), ?_, ?_, ?_, ?_⟩
      · refine Ev.bind' _ g1 (Ev.pos (by simpa using hg) (Ev.bindc true hx1 ?_))
        refine Ev.step (fun k => by rw [spec_PunchMap.j0]) (Ev.neg (by simp) (Ev.bind' _ hcut (Ev.bind' _ (spec_GoodMap_ev o (by omega)) ?_)))
        by_cases hgo : Good o
        · rw [if_pos hgo]
          exact Ev.pos (decide_eq_true hgo) (Ev.bind' _ hE1 (Ev.now _))
        · rw [if_neg hgo]
          exact Ev.neg (by simpa using hgo) (Ev.now _)
      · refine Ev.bind' _ hy1 (Ev.pos rfl (Ev.bind' _ (cells_ev l hg.2 hl) ?_))
        rw [w64 (x := (a' : Int) + (b' : Int)) (by omega) (by omega), cellsOf_length, show ((a' : Int) + (b' : Int)).toNat = a' + b' by omega, Int.toNat_natCast]
        refine Ev.pos (by omega) (Ev.pos (by omega) (Ev.pos (by omega) (Ev.bindc _ rfl (Ev.bind' _ hblk ?_))))
        rw [cut_len l _ _ hab]
        refine Ev.bind' _ hmap ?_
        by_cases hgo : Good o
        · rw [if_pos hgo, if_pos hgo]
          exact Ev.pos rfl (Ev.now _)
        · rw [if_neg hgo, if_neg hgo]
          exact Ev.neg (by simp) (Ev.now _)
      · by_cases hgo : Good o
        · rw [if_pos hgo]; show o.length ≤ 2000000; omega
        · rw [if_neg hgo]; simp
      · by_cases hgo : Good o
        · rw [if_pos hgo]; show E.length ≤ 2000000; omega
        · rw [if_neg hgo]; simp
    · obtain rfl : x = false := by
        cases x with
        | false => rfl
        | true => exact absurd (hx2.1 rfl) hs
      obtain rfl : y = false := by
        cases y with
        | false => rfl
        | true => exact absurd (hy2.1 rfl).2 hs
      exact ⟨([], [], false), Ev.bind' _ g1 (Ev.pos (by simpa using hg) (Ev.bindc _ hx1 n1)), Ev.bind' _ hy1 (Ev.neg (by simp) (Ev.now _)), by simp, by simp⟩
  · obtain rfl : y = false := by
      cases y with
      | false => rfl
      | true => exact absurd (hy2.1 rfl).1 hg
    exact ⟨([], [], false), Ev.bind' _ g1 (Ev.neg (by simpa using hg) n1), Ev.bind' _ hy1 (Ev.neg (by simp) (Ev.now _)), by simp, by simp⟩
end Go.Proofs.Ytojdlcbmbpgplaa.Q
