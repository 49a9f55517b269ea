import Derived.Test.YtojdlcbmbpgplaaMapCanon
import Derived.Test.YtojdlcbmbpgplaaMapCut
import Derived.Test.YtojdlcbmbpgplaaMapBlocks
import Derived.Test.YtojdlcbmbpgplaaG11
import Derived.Test.YtojdlcbmbpgplaaG20
namespace Go.Proofs.Ytojdlcbmbpgplaa.Q
open Go.RowKit Go.Proofs.YtojdlcbmbpgplaaW.PrintWords Go.Proofs.Ytojdlcbmbpgplaa.G
set_option linter.unusedVariables false
set_option linter.unusedSimpArgs false

/-- Parts of a good map's pieces lie apart on the device. -/
theorem parts_apart {l m : List Pc} (hg : Good l) (hm : Ord m) (hs : ∀ p, p ∈ m → ∃ j, j < l.length ∧ Part p (l.getD j pz)) : ∀ i j, i < j → j < m.length → Apart (m.getD i pz) (m.getD j pz) := by
  intro i j hij hj
  obtain ⟨u, hu, pu⟩ := hs _ (getD_mem m i pz (by omega))
  obtain ⟨v, hv, pv⟩ := hs _ (getD_mem m j pz hj)
  have h1 := ord_lt hm i j hij hj
  unfold Part at pu pv
  unfold Apart
  rcases Nat.lt_trichotomy u v with h | h | h
  · have := (hg.2 v hv).2.2 u h
    unfold Apart at this
    omega
  · subst h; omega
  · have := (hg.2 u hu).2.2 v h
    unfold Apart at this
    omega
/-- Parts of a good map's pieces, in order, none going on with the one before: a good map, if they are not too many. -/
theorem parts_good {l m : List Pc} (hg : Good l) (hm : Canon m) (hs : ∀ p, p ∈ m → ∃ j, j < l.length ∧ Part p (l.getD j pz)) (hn : m.length ≤ 40) : Good m := by
  refine ⟨hn, fun i hi => ⟨hm.1.1 i hi, fun h0 => ?_, fun j hj => parts_apart hg hm.1 hs j i hj hi⟩⟩
  have a := hm.1.2 (i - 1) (by omega)
  have b := hm.2 (i - 1) (by omega)
  rw [show i - 1 + 1 = i by omega] at a b
  exact ⟨a, b⟩
/-- The extents of what was cut out are the blocks of its cells. -/
theorem cut_extents {l o q : List Pc} {fr en : Int} (hg : Good l) (h0 : 0 ≤ fr) (h2 : en ≤ 200) (inv : CutInv l fr en l.length o q) : ∃ E, Ev (fun k => spec_l9Extents.f k q) E ∧ ECanon 400 E ∧ ∀ b : Nat, InE E b ↔ ∃ n : Nat, (fr ≤ (n : Int) ∧ (n : Int) < en) ∧ (cellAt l n).f0 = true ∧ (cellAt l n).f1 = (b : Int) := by
  have hc := good_canon hg.2
  have hql := ord_length inv.oq
  obtain ⟨E, h1, h2', h3⟩ := extents_ev q (fun p hp => ord_inr inv.oq hp) (parts_apart hg inv.oq inv.sq) (by omega)
  refine ⟨E, h1, h2', fun b => ?_⟩
  rw [h3 b]
  constructor
  · rintro ⟨p, hp, hpb⟩
    have hi := ord_inr inv.oq hp
    have hr := inv.iq p hp
    unfold InR at hi
    unfold PHolds at hpb
    have hn : Holds p (p.f0 + ((b : Int) - p.f2)).toNat := by unfold Holds; omega
    have hin : fr ≤ (((p.f0 + ((b : Int) - p.f2)).toNat : Nat) : Int) ∧ (((p.f0 + ((b : Int) - p.f2)).toNat : Nat) : Int) < en := by omega
    have e := cut_in hc inv (p.f0 + ((b : Int) - p.f2)).toNat
    rw [if_pos hin, cellAt_mem inv.oq hp hn] at e
    refine ⟨_, hin, ?_, ?_⟩
    · rw [← e]
    · rw [← e]
      simp only
      omega
  · rintro ⟨n, hin, hf, e⟩
    have e1 := cut_in hc inv n
    rw [if_pos hin] at e1
    rw [← e1] at hf e
    rcases cellAt_cases inv.oq n with ⟨p, hp, hpn, e2⟩ | ⟨_, e2⟩
    · rw [e2] at e
      refine ⟨p, hp, ?_⟩
      unfold Holds at hpn
      unfold PHolds
      simp only at e
      omega
    · rw [e2] at hf
      cases hf
/-- A cell's block lies on the device. -/
theorem cell_range {l : List Pc} (h : Ord l) (n : Nat) (hf : (cellAt l n).f0 = true) : 0 ≤ (cellAt l n).f1 ∧ (cellAt l n).f1 < 400 := by
  rcases cellAt_cases h n with ⟨p, hp, hpn, e⟩ | ⟨_, e⟩
  · rw [e]
    have := ord_inr h hp
    unfold InR at this
    unfold Holds at hpn
    simp only
    omega
  · rw [e] at hf
    cases hf
theorem cellsOf_drop (l : List Pc) (a n : Nat) (h : a + n < 200) : ((cellsOf l).drop a).getD n z78 = cellAt l (a + n) := by
  rw [← cellsOf_get l (a + n) h]
  simp [List.getD_eq_getElem?_getD]
theorem cellsOf_take (l : List Pc) (a n : Nat) (h : n < a) (h2 : n < 200) : ((cellsOf l).take a).getD n z78 = cellAt l n := by
  rw [← cellsOf_get l n h2]
  simp [List.getD_eq_getElem?_getD, h]
theorem truncateMap_both (l : List Pc) (a : Int) (hl : l.length ≤ 1048576) : ∃ r, Ev (fun k => spec_TruncateMap.f k l a) r ∧ Ev (fun k => impl_TruncateMap.f k l a) r ∧ r.1.length ≤ 2000000 ∧ r.2.1.length ≤ 2000000 := by
  have g1 := spec_GoodMap_ev l hl
  have g2 := impl_GoodMap_ev l hl
  have n1 : ∀ x y : Int, Ev (fun k => spec_PunchMap.j0 k x y true l) ([], [], false) := fun x y => Ev.step (fun k => by rw [spec_PunchMap.j0]) (Ev.pos rfl (Ev.now _))
  have n2 : Ev (fun k => impl_TruncateMap.j0 k a true l) ([], [], false) := Ev.step (fun k => by rw [impl_TruncateMap.j0]) (Ev.pos rfl (Ev.now _))
  unfold spec_TruncateMap.f impl_TruncateMap.f
  by_cases ha : 0 ≤ a ∧ a ≤ 200
  · have w1 : wrap64 (200 - a) = 200 - a := w64 (by omega) (by omega)
    rw [w1]
    clear w1
    by_cases hg : Good l
    · have hc := good_canon hg.2
      obtain ⟨o, q, hcut, inv⟩ := cut_ev l hc a (200 - a) (by omega) (by omega) (by omega)
      have hen : a + (200 - a) = 200 := by omega
      rw [hen] at inv
      obtain ⟨E, hE1, hE2, hE3⟩ := cut_extents hg (by omega) (by omega) inv
      have hol : o.length ≤ 40 := Nat.le_trans (inv.lo (fun j hj => by have := hc.1.1 j hj; unfold InR at this; omega)) hg.1
      have hgo := parts_good hg inv.co inv.so hol
      have hmap := mapOf_ev ((cellsOf l).take a.toNat) o inv.co (by rw [List.length_take]; omega) (fun i hi => by
        rw [List.length_take, cellsOf_length]
        have h1 := inv.io _ (getD_mem o i pz hi)
        have h2 := inv.co.1.1 i hi
        unfold InR at h2
        omega) (fun n hn => by
        rw [List.length_take, cellsOf_length] at hn
        rw [cellsOf_take l _ _ (by omega) (by omega), cut_out hc inv n, if_neg (by omega)])
      rw [if_pos hgo] at hmap
      have hblk := blocksIn_ev ((cellsOf l).drop a.toNat) (by rw [List.length_drop, cellsOf_length]; omega) (fun n hn hf => by
        rw [List.length_drop, cellsOf_length] at hn
        rw [cellsOf_drop l _ _ (by omega)] at hf ⊢
        exact cell_range hc.1 _ hf) E hE2 (fun b hb => by
        rw [hE3 b, List.length_drop, cellsOf_length]
        constructor
        · rintro ⟨n, hin, hf, e⟩
          refine ⟨n - a.toNat, by omega, ?_, ?_⟩
          · rw [cellsOf_drop l _ _ (by omega), show a.toNat + (n - a.toNat) = n by omega]; exact hf
          · rw [cellsOf_drop l _ _ (by omega), show a.toNat + (n - a.toNat) = n by omega]; exact e
        · rintro ⟨n, hn, hf, e⟩
          rw [cellsOf_drop l _ _ (by omega)] at hf e
          exact ⟨a.toNat + n, by omega, hf, e⟩)
      refine ⟨(o, E, true), ?_, ?_, by show o.length ≤ 2000000; omega, ?_⟩
      · refine Ev.bindc _ (l1In_eq _ _ _) (Ev.pos (by simpa using ha) ?_)
        refine Ev.bind' (o, E, true) ?_ (Ev.now _)
        unfold spec_PunchMap.f
        refine Ev.bind' _ g1 (Ev.pos (by simpa using hg) (Ev.bindc true ?_ ?_))
        · unfold spec_l9Stretch.f
          rw [l1In_eq, Option.bind_some, if_pos (by simpa using ha), l1In_eq, w64 (x := 200 - a) (by omega) (by omega)]
          exact congrArg some (decide_eq_true (by omega))
        · refine Ev.step (fun k => by rw [spec_PunchMap.j0]) (Ev.neg (by simp) (Ev.bind' _ hcut (Ev.bind' _ (spec_GoodMap_ev o (by omega)) ?_)))
          refine Ev.pos (decide_eq_true hgo) ?_
          exact Ev.bind' _ hE1 (Ev.now _)
      · refine Ev.bind' _ g2 (Ev.pos (by simpa using hg) (Ev.bindc _ (within_eq _ _ _) ?_))
        rw [decide_eq_true ha]
        refine Ev.step (fun k => by rw [impl_TruncateMap.j0]) (Ev.neg (by simp) (Ev.bind' _ (cells_ev l hg.2 hl) ?_))
        exact Ev.pos (by omega) (Ev.pos (by rw [cellsOf_length]; omega) (Ev.bind' _ hblk (Ev.bind' _ hmap (Ev.now _))))
      · have := eord_length hE2.1
        show E.length ≤ 2000000
        omega
    · refine ⟨([], [], false), ?_, Ev.bind' _ g2 (Ev.neg (by simpa using hg) n2), by simp, by simp⟩
      refine Ev.bindc _ (l1In_eq _ _ _) (Ev.pos (by simpa using ha) ?_)
      refine Ev.bind' ([], [], false) ?_ (Ev.now _)
      unfold spec_PunchMap.f
      exact Ev.bind' _ g1 (Ev.neg (by simpa using hg) (n1 _ _))
  · refine ⟨([], [], false), Ev.bindc _ (l1In_eq _ _ _) (Ev.neg (by simpa using ha) (Ev.now _)), ?_, by simp, by simp⟩
    by_cases hg : Good l
    · refine Ev.bind' _ g2 (Ev.pos (by simpa using hg) (Ev.bindc _ (within_eq _ _ _) ?_))
      rw [decide_eq_false ha]
      exact n2
    · exact Ev.bind' _ g2 (Ev.neg (by simpa using hg) n2)
end Go.Proofs.Ytojdlcbmbpgplaa.Q
