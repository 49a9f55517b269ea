-- Printed by a program of this session (drive.py, by way of the kit's print). Not trusted: Lean checks it.
import Derived.Test.YtojdlcbmbpgplaaG0
namespace Go.Proofs.Ytojdlcbmbpgplaa.G
open Go.RowKit Go.Proofs.YtojdlcbmbpgplaaW.PrintWords Go.Proofs.YtojdlcbmbpgplaaW.PrintLast Go.Proofs.YtojdlcbmbpgplaaW.PrintMore
attribute [local go_sem] max2_int min2_int max_two min_two max_three min_three max_four min_four   -- for this text's walks alone
set_option linter.unusedVariables false
set_option linter.unusedSimpArgs false

/-! ### impl_FileMap_cells: function 57 -/
mutual
def impl_FileMap_cells.l0 : Nat → List (S78) → List (S48) → Int → Int → Option ((List (S78)))
 | 0, _, _, _, _ => none
 | k + 1, x3, x9, x10, x11 => if x11 < x10 then (if 0 ≤ x11 then (if x11 < (x9.length : Int) then (impl_FileMap_cells.l1 k x3 x9 x10 x11 ((rd_T48 x9 x11).f1) 0 ((rd_T48 x9 x11).f0) ((rd_T48 x9 x11).f1) ((rd_T48 x9 x11).f2) ((rd_T48 x9 x11).f3)) else (none)) else (none)) else (some x3)
def impl_FileMap_cells.l1 : Nat → List (S78) → List (S48) → Int → Int → Int → Int → Int → Int → Int → Bool → Option ((List (S78)))
 | 0, _, _, _, _, _, _, _, _, _, _ => none
 | k + 1, x3, x9, x10, x11, x16, x17, x224000, x224001, x224002, x224003 => if x17 < x16 then (if 0 ≤ (wrap64 (x224000 + x17)) then (if (wrap64 (x224000 + x17)) < (x3.length : Int) then (impl_FileMap_cells.l1 k (x3.set ((wrap64 (x224000 + x17)) : Int).toNat (⟨true, wrap64 (x224002 + x17), x224003⟩ : S78)) x9 x10 x11 x16 (wrap64 (x17 + 1)) x224000 x224001 x224002 x224003) else (none)) else (none)) else (impl_FileMap_cells.l0 k x3 x9 x10 (wrap64 (x11 + 1)))
end
def impl_FileMap_cells.f (k : Nat) (l0_0 : List (S48)) : Option ((List (S78))) := if 200 ≤ 11728124029610 then (impl_FileMap_cells.l0 k (List.replicate 200 z78) l0_0 (l0_0.length : Int) 0) else (none)
theorem impl_FileMap_cells.mono_l : ∀ k, (∀ y0 y1 y2 y3, LeO (impl_FileMap_cells.l0 k y0 y1 y2 y3) (impl_FileMap_cells.l0 (k + 1) y0 y1 y2 y3)) ∧ (∀ y0 y1 y2 y3 y4 y5 y6 y7 y8 y9, LeO (impl_FileMap_cells.l1 k y0 y1 y2 y3 y4 y5 y6 y7 y8 y9) (impl_FileMap_cells.l1 (k + 1) y0 y1 y2 y3 y4 y5 y6 y7 y8 y9))
 | 0 => ⟨fun _ _ _ _ r h => by simp [impl_FileMap_cells.l0] at h, fun _ _ _ _ _ _ _ _ _ _ r h => by simp [impl_FileMap_cells.l1] at h⟩
 | k + 1 => by
  obtain ⟨ih0, ih1⟩ := impl_FileMap_cells.mono_l k
  refine ⟨?_, ?_⟩
  ·
   intro y0 y1 y2 y3
   unfold impl_FileMap_cells.l0
   repeat' first
   | (with_reducible exact ih0 _ _ _ _)
   | (with_reducible exact ih1 _ _ _ _ _ _ _ _ _ _)
   | (with_reducible exact LeO.refl _)
   | (with_reducible exact LeO.none _)
   | (with_reducible refine LeO.ite ?_ ?_)
   | (with_reducible refine LeO.bind ?_ (fun _ => ?_))
   | exact ih0 _ _ _ _
   | exact ih1 _ _ _ _ _ _ _ _ _ _
   | exact LeO.none _
   | refine LeO.ite ?_ ?_
   | refine LeO.bind ?_ (fun _ => ?_)
  ·
   intro y0 y1 y2 y3 y4 y5 y6 y7 y8 y9
   unfold impl_FileMap_cells.l1
   repeat' first
   | (with_reducible exact ih0 _ _ _ _)
   | (with_reducible exact ih1 _ _ _ _ _ _ _ _ _ _)
   | (with_reducible exact LeO.refl _)
   | (with_reducible exact LeO.none _)
   | (with_reducible refine LeO.ite ?_ ?_)
   | (with_reducible refine LeO.bind ?_ (fun _ => ?_))
   | exact ih0 _ _ _ _
   | exact ih1 _ _ _ _ _ _ _ _ _ _
   | exact LeO.none _
   | refine LeO.ite ?_ ?_
   | refine LeO.bind ?_ (fun _ => ?_)
theorem impl_FileMap_cells.mono : ∀ a0 k, LeO (impl_FileMap_cells.f k a0) (impl_FileMap_cells.f (k + 1) a0) := by
 intro a0 k
 obtain ⟨ih0, ih1⟩ := impl_FileMap_cells.mono_l k
 unfold impl_FileMap_cells.f
 repeat' first
   | (with_reducible exact ih0 _ _ _ _)
   | (with_reducible exact ih1 _ _ _ _ _ _ _ _ _ _)
   | (with_reducible exact LeO.refl _)
   | (with_reducible exact LeO.none _)
   | (with_reducible refine LeO.ite ?_ ?_)
   | (with_reducible refine LeO.bind ?_ (fun _ => ?_))
   | exact ih0 _ _ _ _
   | exact ih1 _ _ _ _ _ _ _ _ _ _
   | exact LeO.none _
   | refine LeO.ite ?_ ?_
   | refine LeO.bind ?_ (fun _ => ?_)
set_option maxHeartbeats 8000000 in
set_option maxRecDepth 100000 in
theorem impl_FileMap_cells.calls (k : Nat) (A0_0 : Option Addr) (c0_0 : Nat) (l0_0 : List (S48)) (r : List (S78)) (w : World) (hr0_0 : Kd.C k48 w A0_0 l0_0.length l0_0) (hc0_0 : l0_0.length ≤ c0_0) (h : impl_FileMap_cells.f k l0_0 = some r) :
  Calls Try.prog 57 #[.agg #[.slice A0_0 l0_0.length c0_0]] w fun e w' => ∃ v0_ : Value, e = .returned (v0_) ∧ Kd.R k78 78 w' w.heap.size (fun _ => True) v0_ r ∧ Below w.heap.size w w' := by
 have hu29 := Try.underlying29
 have hu48 := Try.underlying48
 have hu78 := Try.underlying78
 have HR0_0 := Aside0.mk hr0_0
 have HC0_0 := Aside0.mk hc0_0
 clear hr0_0 hc0_0
 have HB := Aside0.mk (Below.refl w.heap.size w)
 have H : (if 200 ≤ 11728124029610 then (impl_FileMap_cells.l0 k (List.replicate 200 z78) l0_0 (l0_0.length : Int) 0) else (none)) = some r := h
 clear h
 by_cases c2 : 200 ≤ 11728124029610
 ·
  rw [if_pos c2] at H
  have c2b0 := eq_true c2
  have c2b1 : decide (200 ≤ 11728124029610) = true := decide_eq_true c2
  clear c2
  obtain ⟨y219, hy219⟩ : ∃ y_ : List (S78), y_ = (List.replicate 200 z78) := ⟨_, rfl⟩
  replace H : (impl_FileMap_cells.l0 k y219 l0_0 (l0_0.length : Int) 0) = some r := by first | (rw [hy219]; with_reducible exact H) | (have H2_ := (Option.bind_some _ _).symm.trans H; rw [hy219]; with_reducible exact H2_) | (have H2_ := (Option.bind_some _ _).symm.trans H; with_reducible exact H2_) | with_reducible exact H | (rw [hy219]; exact H) | exact H
  have Ny219 := Aside0.mk hy219
  clear hy219
  have H' := Aside0.mk H
  clear H
  go_enter Try.func57, Try.ntmps57
  go_wp2_with (first | ((with_reducible refine gate_dst (N := 1) rfl ?_); refine box_event ?hg (N := 1) ?hd (cs := #[.slice A0_0 l0_0.length c0_0]) (t := 29) ?hr ?_; (case hd => rfl); (case hg => rfl); (case hr => first | (go_simp; done) | (go_simp; rfl)); intro gb218 hg w3 hbox hb; have BK218 := Aside0.mk (hbox); have GW218 := Aside0.mk ((by rw [hg]; exact (below_size (bs HB)) : w.heap.size ≤ gb218)); have GE218 := Aside0.mk ((by rw [hg]; exact (below_size (bs HB)) : w.heap.size ≤ gb218)); replace HB := Aside0.mk (below_step (bs HB) hb); clear hb hbox hg) | ((with_reducible refine gate_dst (N := 7) rfl ?_); refine Kd.R_make k78 _ 78 rfl (N := 7) rfl 79 _ _ rfl 200 rfl rfl Try.underlying79 (.agg #[(.bool false), (.int .i64 0), (.bool false)]) 24 info78 rfl (by decide) (by omega) z78 (ok := fun _ => True) (okp := fun _ => True) (k78_mkM _ _ _ z78 ) (fun _ hk => hk) trivial (by omega) (by omega) (Below.refl _ _) (Nat.le_refl _) ?_; intro v220 w4 ho5 hb hg_ hnew_; clear hg_ hnew_; (first | rw [← Ny219.out] at ho5 | (simp only [Int.reduceToNat] at ho5; rw [← Ny219.out] at ho5)); have HO221 := Aside0.mk (Kd.R_lower ho5 (below_size (bs1 HB GE218))); replace BK218 := nb BK218 hb; replace HB := Aside0.mk (below_step (bs1 HB GE218) hb); clear hb ho5; have hcz6_0 := cz1 BK218; have hfz6_0 := fz1 BK218))
  go_loopg [11] k (fun kq v11 w' => ∃ (x3_1 : List (S78)) (x11_1 : Int), v11 = .int .i64 x11_1 ∧ Aside0 (impl_FileMap_cells.l0 kq x3_1 l0_0 (l0_0.length : Int) x11_1 = some r) ∧ Aside0 (kq ≤ k) ∧ Aside0 (Kd.R k78 78 w' w.heap.size (fun _ => True) v220 x3_1) ∧ Aside0 (w'.heap[gb218]? = some (.cells #[(.slice A0_0 l0_0.length c0_0)] 29 (0, 0))) ∧ Aside0 (Below w.heap.size w w'))
  case atStart => exact ⟨(y219), (0), (by first | rfl | (simp; done) | (simp [*]; done)), H', ⟨Nat.le_refl _⟩, ⟨rr HO221.out⟩, ⟨bk BK218⟩, ⟨bs1 HB GE218⟩⟩
  case round =>
   clear H'
   try clear c2
   try clear c2b0
   try clear c2b1
   try clear p2
   try clear c5
   try clear hcz6_0
   try clear hfz6_0
   obtain ⟨x3_1, x11_1, rfl, HA, HK1, HO_3, BK218, HB⟩ := hrel
   cases gk with
   | zero => exact absurd HA.out (by simp [impl_FileMap_cells.l0])
   | succ k1 =>
    have H := HA.out
    clear HA
    simp only [impl_FileMap_cells.l0] at H
    by_cases c7 : x11_1 < (l0_0.length : Int)
    ·
     rw [if_pos c7] at H
     have c7b0 : decide (x11_1 < (l0_0.length : Int)) = true := decide_eq_true c7
     clear c7
     by_cases c8 : 0 ≤ x11_1
     ·
      rw [if_pos c8] at H
      have c8b0 : decide (0 ≤ x11_1) = true := decide_eq_true c8
      clear c8
      by_cases c9 : x11_1 < (l0_0.length : Int)
      ·
       rw [if_pos c9] at H
       have c9b0 : decide (x11_1 < (l0_0.length : Int)) = true := decide_eq_true c9
       clear c9
       have H' := Aside0.mk H
       clear H
       have p222 : 0 ≤ (x11_1 : Int) := of_decide_eq_true (by first | (with_reducible assumption) | assumption)
       have q222 : x11_1 < (l0_0.length : Int) := of_decide_eq_true (by first | (with_reducible assumption) | assumption)
       obtain ⟨ad222, e222, hx222_0, hx222_1, hx222_2, hx222_3⟩ := at_T48 HR0_0.out x11_1 p222 q222
       cases e222
       replace hx222_0 := (HB.out.cell (World.block_lt_of_cell? w _ hx222_0)).trans hx222_0
       replace hx222_1 := (HB.out.cell (World.block_lt_of_cell? w _ hx222_1)).trans hx222_1
       replace hx222_2 := (HB.out.cell (World.block_lt_of_cell? w _ hx222_2)).trans hx222_2
       replace hx222_3 := (HB.out.cell (World.block_lt_of_cell? w _ hx222_3)).trans hx222_3
       replace p222 := eq_true p222
       replace q222 := eq_true q222
       go_wp2_with (first | ((with_reducible refine gate_dst (N := 5) rfl ?_); refine box_event ?hg (N := 5) ?hd (cs := #[.int .i64 0, .int .i64 0, .int .i64 0, .bool false]) (t := 48) ?hr ?_; (case hd => rfl); (case hg => rfl); (case hr => first | (go_simp; done) | (go_simp; rfl)); intro gb223 hg w10 hbox hb; replace HO_3 := nr HO_3 hb; have BK223 := Aside0.mk (hbox); have GW223 := Aside0.mk ((by rw [hg]; exact (below_size (bs1 HB GE218)) : w.heap.size ≤ gb223)); have GE223 := Aside0.mk ((by rw [hg]; exact (below_size (bs1 HB GE218)) : w.heap.size ≤ gb223)); replace HB := Aside0.mk (below_step (bs1 HB GE218) hb); have NB218_223 := Aside0.mk ((bn BK218 hg : gb218 ≠ gb223)); have NB223_218 := Aside0.mk ((bm BK218 hg : gb223 ≠ gb218)); replace BK218 := nb BK218 hb; clear hb hbox hg; have hnb11 := NB223_218.out; have hnc11 := NB218_223.out; obtain ⟨hcz12_0, hcz12_1, hcz12_2, hcz12_3⟩ := cz4 BK223; obtain ⟨hfz12_0, hfz12_1, hfz12_2, hfz12_3⟩ := fz4 BK223))
       go_loopg [17] k1 (fun kq v17 w' => ∃ (x3_2 : List (S78)) (x17_2 : Int), v17 = .int .i64 x17_2 ∧ Aside0 (impl_FileMap_cells.l1 kq x3_2 l0_0 (l0_0.length : Int) x11_1 ((rd_T48 l0_0 x11_1).f1) x17_2 ((rd_T48 l0_0 x11_1).f0) ((rd_T48 l0_0 x11_1).f1) ((rd_T48 l0_0 x11_1).f2) ((rd_T48 l0_0 x11_1).f3) = some r) ∧ Aside0 (kq ≤ k1) ∧ Aside0 (Kd.R k78 78 w' w.heap.size (fun _ => True) v220 x3_2) ∧ Aside0 (w'.heap[gb218]? = some (.cells #[(.slice (some ad222) l0_0.length c0_0)] 29 (0, 0))) ∧ Aside0 (w'.heap[gb223]? = some (.cells #[.int .i64 ((rd_T48 l0_0 x11_1).f0), .int .i64 ((rd_T48 l0_0 x11_1).f1), .int .i64 ((rd_T48 l0_0 x11_1).f2), .bool ((rd_T48 l0_0 x11_1).f3)] 48 (0, 0))) ∧ Aside0 (Below w.heap.size w w'))
       case atStart => exact ⟨(x3_1), (0), (by first | rfl | (simp; done) | (simp [*]; done)), H', ⟨Nat.le_refl _⟩, ⟨by (with_reducible repeat (first | apply Kd.R_alloc | apply Kd.R_drewN | apply Kd.R_drew)); exact Kd.R_mono (Kd.R_far (p := ⟨gb223, 3, none⟩) (Kd.R_far (p := ⟨gb223, 2, none⟩) (Kd.R_far (p := ⟨gb223, 1, none⟩) (Kd.R_far (p := ⟨gb223, 0, none⟩) (Kd.R_types HO_3.out BK223.out (by decide)) (fun _ hk => hk.2) (.int .i64 ((rd_T48 l0_0 x11_1).f0))) (fun _ hk => hk.2) (.int .i64 ((rd_T48 l0_0 x11_1).f1))) (fun _ hk => hk.2) (.int .i64 ((rd_T48 l0_0 x11_1).f2))) (fun _ hk => hk.2) (.bool ((rd_T48 l0_0 x11_1).f3))) (fun _ hk => trivial)⟩, ⟨bf BK218 NB218_223⟩, ⟨by (with_reducible repeat (first | refine blk_drewN ?_ _ | refine blk_drew ?_ | refine blk_alloc ?_ _)); refine blk_put (cs := #[.int .i64 ((rd_T48 l0_0 x11_1).f0), .int .i64 ((rd_T48 l0_0 x11_1).f1), .int .i64 ((rd_T48 l0_0 x11_1).f2), .bool false]) ?_ 3 _ rfl; (with_reducible repeat (first | refine blk_drewN ?_ _ | refine blk_drew ?_ | refine blk_alloc ?_ _)); refine blk_put (cs := #[.int .i64 ((rd_T48 l0_0 x11_1).f0), .int .i64 ((rd_T48 l0_0 x11_1).f1), .int .i64 0, .bool false]) ?_ 2 _ rfl; (with_reducible repeat (first | refine blk_drewN ?_ _ | refine blk_drew ?_ | refine blk_alloc ?_ _)); refine blk_put (cs := #[.int .i64 ((rd_T48 l0_0 x11_1).f0), .int .i64 0, .int .i64 0, .bool false]) ?_ 1 _ rfl; (with_reducible repeat (first | refine blk_drewN ?_ _ | refine blk_drew ?_ | refine blk_alloc ?_ _)); refine blk_put (cs := #[.int .i64 0, .int .i64 0, .int .i64 0, .bool false]) ?_ 0 _ rfl; (with_reducible repeat (first | refine blk_drewN ?_ _ | refine blk_drew ?_ | refine blk_alloc ?_ _)); exact BK223.out⟩, ⟨bs2 HB GE218 GE223⟩⟩
       case round =>
        clear H'
        try clear c1
        try clear c2
        try clear c2b0
        try clear c2b1
        try clear p2
        try clear q2
        try clear hx2
        try clear c5
        try clear c7
        try clear c7b0
        try clear c8
        try clear c8b0
        try clear c9
        try clear c9b0
        try clear c11
        try clear hcz12_0 hcz12_1 hcz12_2 hcz12_3
        try clear hcz6_0
        try clear hfz12_0 hfz12_1 hfz12_2 hfz12_3
        try clear hfz6_0
        try clear hx222_0
        try clear hx222_1
        try clear hx222_2
        try clear hx222_3
        try clear p2
        try clear p222
        try clear q222
        obtain ⟨x3_2, x17_2, rfl, HA, HK2, HO_3, BK218, BK223, HB⟩ := hrel
        cases gk with
        | zero => exact absurd HA.out (by simp [impl_FileMap_cells.l1])
        | succ k2 =>
         have H := HA.out
         clear HA
         simp only [impl_FileMap_cells.l1] at H
         by_cases c13 : x17_2 < ((rd_T48 l0_0 x11_1).f1)
         ·
          rw [if_pos c13] at H
          have c13b0 : decide (x17_2 < ((rd_T48 l0_0 x11_1).f1)) = true := decide_eq_true c13
          clear c13
          obtain ⟨ji14, hji14⟩ : ∃ j_ : Int, (wrap64 (((rd_T48 l0_0 x11_1).f0) + x17_2)) = j_ := ⟨_, rfl⟩
          replace H : (if 0 ≤ (ji14) then (if (ji14) < (x3_2.length : Int) then (impl_FileMap_cells.l1 k2 (x3_2.set ((ji14) : Int).toNat (⟨true, wrap64 (((rd_T48 l0_0 x11_1).f2) + x17_2), ((rd_T48 l0_0 x11_1).f3)⟩ : S78)) l0_0 (l0_0.length : Int) x11_1 ((rd_T48 l0_0 x11_1).f1) (wrap64 (x17_2 + 1)) ((rd_T48 l0_0 x11_1).f0) ((rd_T48 l0_0 x11_1).f1) ((rd_T48 l0_0 x11_1).f2) ((rd_T48 l0_0 x11_1).f3)) else (none)) else (none)) = some r := by first | (rw [hji14] at H; exact H) | (simp only [hji14] at H ⊢; exact H)
          have hji14w : (IntKind.i64.wrap (((rd_T48 l0_0 x11_1).f0) + x17_2)) = ji14 := (i64_w _).trans hji14
          by_cases c15 : 0 ≤ (ji14)
          ·
           rw [if_pos c15] at H
           have c15b0 : decide (0 ≤ (ji14)) = true := decide_eq_true c15
           clear c15
           by_cases c16 : (ji14) < (x3_2.length : Int)
           ·
            rw [if_pos c16] at H
            have c16b0 : decide ((ji14) < (x3_2.length : Int)) = true := decide_eq_true c16
            clear c16
            obtain ⟨y224, hy224⟩ : ∃ y_ : List (S78), y_ = (x3_2.set ((ji14) : Int).toNat (⟨true, wrap64 (((rd_T48 l0_0 x11_1).f2) + x17_2), ((rd_T48 l0_0 x11_1).f3)⟩ : S78)) := ⟨_, rfl⟩
            replace H : (impl_FileMap_cells.l1 k2 y224 l0_0 (l0_0.length : Int) x11_1 ((rd_T48 l0_0 x11_1).f1) (wrap64 (x17_2 + 1)) ((rd_T48 l0_0 x11_1).f0) ((rd_T48 l0_0 x11_1).f1) ((rd_T48 l0_0 x11_1).f2) ((rd_T48 l0_0 x11_1).f3)) = some r := by first | (rw [hy224]; with_reducible exact H) | (have H2_ := (Option.bind_some _ _).symm.trans H; rw [hy224]; with_reducible exact H2_) | (have H2_ := (Option.bind_some _ _).symm.trans H; with_reducible exact H2_) | with_reducible exact H | (rw [hy224]; exact H) | exact H
            have Ny224 := Aside0.mk hy224
            clear hy224
            have H' := Aside0.mk H
            clear H
            have hnb18 := NB223_218.out
            have hnc18 := NB218_223.out
            obtain ⟨hcz19_0, hcz19_1, hcz19_2, hcz19_3⟩ := cz4 BK223
            obtain ⟨hfz19_0, hfz19_1, hfz19_2, hfz19_3⟩ := fz4 BK223
            have p17 : 0 ≤ ((ji14) : Int) := of_decide_eq_true (by first | (with_reducible assumption) | assumption)
            have q17 : ((ji14) : Int) < ((x3_2.length : Int) : Int) := of_decide_eq_true (by first | (with_reducible assumption) | assumption)
            obtain ⟨go17, co17, eo17, gb17, gl17, cl17, HG17⟩ := Kd.R_form HO_3.out (by omega)
            (first | cases eo17 | (injection eo17 with ea_ en_ ec_; (first | subst ea_ | (injection ea_ with ea_; subst ea_)); subst ec_; clear en_))
            have GB17 := Aside0.mk gb17
            have GG17 := Aside0.mk HG17
            clear gb17 gl17 HG17
            obtain ⟨ce17, hcl17, hM17, hcc17, hfr17⟩ := Kd.R_elem HO_3.out z78 ((ji14) : Int) p17 q17
            obtain rfl := k78_openM hM17
            have hx17_0 : wr.cell? ⟨go17, ((ji14) : Int).toNat * 3, none⟩ = some (.bool ((rd_T78 x3_2 (ji14)).f0)) := hcc17 0 _ rfl
            have hx17_1 : wr.cell? ⟨go17, ((ji14) : Int).toNat * 3 + 1, none⟩ = some (.int .i64 ((rd_T78 x3_2 (ji14)).f1)) := hcc17 1 _ rfl
            have hx17_2 : wr.cell? ⟨go17, ((ji14) : Int).toNat * 3 + 2, none⟩ = some (.bool ((rd_T78 x3_2 (ji14)).f2)) := hcc17 2 _ rfl
            have hf17_0 : wr.frozen? ⟨go17, ((ji14) : Int).toNat * 3, none⟩ = false := hfr17 0
            have hf17_1 : wr.frozen? ⟨go17, ((ji14) : Int).toNat * 3 + 1, none⟩ = false := hfr17 1
            have hf17_2 : wr.frozen? ⟨go17, ((ji14) : Int).toNat * 3 + 2, none⟩ = false := hfr17 2
            clear hcl17 hcc17 hfr17 hM17
            replace p17 := eq_true p17
            replace q17 := eq_true q17
            have HX20 := Aside0.mk (show Kd.R k78 78 wr w.heap.size (fun _ => True) (.slice (some ⟨go17, 0, none⟩) x3_2.length co17) x3_2 from (rr HO_3.out))
            obtain ⟨ce20, hcl20, hM20, hcc20, hfr20⟩ := Kd.R_elem HX20.out z78 ((ji14) : Int) (of_decide_eq_true (by first | (with_reducible assumption) | assumption)) (by have h_ : ((ji14) : Int) < ((x3_2.length : Int) : Int) := of_decide_eq_true (by first | (with_reducible assumption) | assumption); first | exact h_ | (have e_ := (Kd.R_reads' HO_3.out).1; omega) | simpa using h_)
            obtain rfl := k78_openM hM20
            have HP20 := Kd.R_seg HX20.out ((ji14) : Int) (of_decide_eq_true (by first | (with_reducible assumption) | assumption)) (by have h_ : ((ji14) : Int) < ((x3_2.length : Int) : Int) := of_decide_eq_true (by first | (with_reducible assumption) | assumption); first | exact h_ | (have e_ := (Kd.R_reads' HO_3.out).1; omega) | simpa using h_) (seg := [.bool true, .int .i64 (wrap64 (((rd_T48 l0_0 x11_1).f2) + x17_2)), .bool ((rd_T48 l0_0 x11_1).f3)]) (j := 0) hcl20 hcc20 (show 3 ≤ 3 from by decide) (x' := (⟨true, wrap64 (((rd_T48 l0_0 x11_1).f2) + x17_2), ((rd_T48 l0_0 x11_1).f3)⟩ : S78)) (k78_mkM _ _ _ (⟨true, wrap64 (((rd_T48 l0_0 x11_1).f2) + x17_2), ((rd_T48 l0_0 x11_1).f3)⟩ : S78) ) (fun _ hk => hk)
            have hx20_0 := hcc20 0 _ rfl
            (try simp only [show (k78).sz = 3 from rfl, Nat.mul_one, Nat.add_zero] at hx20_0)
            have hf20_0 := hfr20 0
            (try simp only [show (k78).sz = 3 from rfl, Nat.mul_one, Nat.add_zero] at hf20_0)
            have hx20_1 := hcc20 1 _ rfl
            (try simp only [show (k78).sz = 3 from rfl, Nat.mul_one, Nat.add_zero] at hx20_1)
            have hf20_1 := hfr20 1
            (try simp only [show (k78).sz = 3 from rfl, Nat.mul_one, Nat.add_zero] at hf20_1)
            have hx20_2 := hcc20 2 _ rfl
            (try simp only [show (k78).sz = 3 from rfl, Nat.mul_one, Nat.add_zero] at hx20_2)
            have hf20_2 := hfr20 2
            (try simp only [show (k78).sz = 3 from rfl, Nat.mul_one, Nat.add_zero] at hf20_2)
            clear hcl20 hcc20 hfr20 hM20
            go_wp2_with (first | ((with_reducible refine gate_store (t := 78) (p := 32) rfl ?_); refine store_event (t := 78) (p := 32) (v := ?vo_w21) (w1 := (((wr.setCell ⟨go17, ((ji14) : Int).toNat * 3, none⟩ (.bool true)).setCell ⟨go17, ((ji14) : Int).toNat * 3 + 1, none⟩ (.int .i64 (wrap64 (((rd_T48 l0_0 x11_1).f2) + x17_2)))).setCell ⟨go17, ((ji14) : Int).toNat * 3 + 2, none⟩ (.bool ((rd_T48 l0_0 x11_1).f3)))) ?hg ?ho ?hn ?hr ?_; (case ho => rfl); (case hg => rfl); (case hn => rfl); (case hr => first | (go_simp; done) | (go_simp; rfl)); intro w21 hw; have hg : wr.grownBy w21 (some go17) := (by rw [hw]; exact HP20.2); have hp_ : Kd.R k78 78 w21 w.heap.size (fun _ => True) (.slice (some ⟨go17, 0, none⟩) x3_2.length co17) y224 := (by rw [hw, Ny224.out]; exact HP20.1); clear HP20; replace BK218 := Aside0.mk (blk_grown (bk BK218) hg (Kd.R_ne HO_3.out BK218.out (by decide))); replace BK223 := Aside0.mk (blk_grown (bk BK223) hg (Kd.R_ne HO_3.out BK223.out (by decide))); replace HO_3 := Aside0.mk (hp_); replace HB := Aside0.mk ((by rw [hw]; exact below_set (below_set (below_set (HB.out) GB17.out) GB17.out) GB17.out : Below w.heap.size w w21)); clear hg hw hp_))
            go_roundg k2
            case measure => have := HK1.out; have := HK2.out; omega
            case rel => exact ⟨(y224), (wrap64 (x17_2 + 1)), (by first | rfl | (simp; done) | (simp [*]; done)), H', ⟨by have := HK1.out; have := HK2.out; omega⟩, ⟨rr HO_3.out⟩, ⟨bk BK218⟩, ⟨bk BK223⟩, ⟨bs2 HB GE218 GE223⟩⟩
           ·
            rw [if_neg c16] at H
            exact absurd H (by simp)
          ·
           rw [if_neg c15] at H
           exact absurd H (by simp)
         ·
          rw [if_neg c13] at H
          have c13b0 : decide (x17_2 < ((rd_T48 l0_0 x11_1).f1)) = false := decide_eq_false c13
          clear c13
          have H' := Aside0.mk H
          clear H
          go_wp2
          go_roundg k2
          case measure => have := HK1.out; have := HK2.out; omega
          case rel => exact ⟨(x3_2), (wrap64 (x11_1 + 1)), (by first | rfl | (simp; done) | (simp [*]; done)), H', ⟨by have := HK1.out; have := HK2.out; omega⟩, ⟨rr HO_3.out⟩, ⟨bk BK218⟩, ⟨bs2 HB GE218 GE223⟩⟩
      ·
       rw [if_neg c9] at H
       exact absurd H (by simp)
     ·
      rw [if_neg c8] at H
      exact absurd H (by simp)
    ·
     rw [if_neg c7] at H
     have c7b0 : decide (x11_1 < (l0_0.length : Int)) = false := decide_eq_false c7
     clear c7
     obtain rfl := Option.some.inj H
     go_wp2
     go_ret
     exact ⟨_, by first | rfl | (simp [errW_none, errW_some] <;> rfl) | (simp [*, errW_none, errW_some] <;> rfl), by (with_reducible repeat (first | apply Kd.R_alloc | apply Kd.R_drewN | apply Kd.R_drew)); exact HO_3.out, bs1 HB GE218⟩
 ·
  rw [if_neg c2] at H
  exact absurd H (by simp)

end Go.Proofs.Ytojdlcbmbpgplaa.G
