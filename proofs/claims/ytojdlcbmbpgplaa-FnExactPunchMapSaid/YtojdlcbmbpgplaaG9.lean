-- Printed by a program of this session (drive.py, by way of the kit's print). Not trusted: Lean checks it.
import Derived.Test.YtojdlcbmbpgplaaG0
namespace Go.Proofs.Ytojdlcbmbpgplaa.G
open Go.RowKit Go.Proofs.YtojdlcbmbpgplaaW.PrintWords Go.Proofs.YtojdlcbmbpgplaaW.PrintLast Go.Proofs.YtojdlcbmbpgplaaW.PrintMore
attribute [local go_sem] max2_int min2_int max_two min_two max_three min_three max_four min_four   -- for this text's walks alone
set_option linter.unusedVariables false
set_option linter.unusedSimpArgs false

/-! ### spec_l9Extents: function 66 -/
mutual
def spec_l9Extents.l0 : Nat → List (S61) → List (S48) → Int → Int → Option ((List (S61)))
 | 0, _, _, _, _ => none
 | k + 1, x3, x13, x14, x15 => if x15 < x14 then (if 0 ≤ x15 then (if x15 < (x13.length : Int) then (spec_l9Extents.l1 k x3 0 x13 x14 x15 ((rd_T48 x13 x15).f2) ((rd_T48 x13 x15).f1)) else (none)) else (none)) else (spec_l9Extents.l2 k ([] : List (S61)) x3 (x3.length : Int) 0)
def spec_l9Extents.l1 : Nat → List (S61) → Int → List (S48) → Int → Int → Int → Int → Option ((List (S61)))
 | 0, _, _, _, _, _, _, _ => none
 | k + 1, x3, x7, x13, x14, x15, x502000, x502001 => if x7 < (x3.length : Int) then (if 0 ≤ x7 then (if ((rd_T61 x3 x7).f0) < x502000 then (spec_l9Extents.l1 k x3 (wrap64 (x7 + 1)) x13 x14 x15 x502000 x502001) else (if x7 ≤ (x3.length : Int) then ((some (x3.take (x7 : Int).toNat : List (S61))).bind fun y503 => (if ([] : List (S61)).length + y503.length < 8796093022208 then ((some (([] : List (S61)) ++ y503 : List (S61))).bind fun y507 => (if y507.length < 8796093022208 then ((some (y507 ++ [(⟨x502000, x502001⟩ : S61)] : List (S61))).bind fun y510 => ((some (x3.drop (x7 : Int).toNat : List (S61))).bind fun y513 => (if y510.length + y513.length < 8796093022208 then (spec_l9Extents.l0 k (y510 ++ y513) x13 x14 (wrap64 (x15 + 1))) else (none)))) else (none))) else (none))) else (none))) else (none)) else (if 0 ≤ x7 then (if x7 ≤ (x3.length : Int) then ((some (x3.take (x7 : Int).toNat : List (S61))).bind fun y520 => (if ([] : List (S61)).length + y520.length < 8796093022208 then ((some (([] : List (S61)) ++ y520 : List (S61))).bind fun y524 => (if y524.length < 8796093022208 then ((some (y524 ++ [(⟨x502000, x502001⟩ : S61)] : List (S61))).bind fun y527 => ((some (x3.drop (x7 : Int).toNat : List (S61))).bind fun y530 => (if y527.length + y530.length < 8796093022208 then (spec_l9Extents.l0 k (y527 ++ y530) x13 x14 (wrap64 (x15 + 1))) else (none)))) else (none))) else (none))) else (none)) else (none))
def spec_l9Extents.l2 : Nat → List (S61) → List (S61) → Int → Int → Option ((List (S61)))
 | 0, _, _, _, _ => none
 | k + 1, x9, x55, x56, x57 => if x57 < x56 then (if 0 ≤ x57 then (if x57 < (x55.length : Int) then (if (wrap64 ((x9.length : Int) - 1)) ≥ 0 then (if 0 ≤ (wrap64 ((x9.length : Int) - 1)) then (if (wrap64 ((x9.length : Int) - 1)) < (x9.length : Int) then (if (wrap64 (((rd_T61 x9 (wrap64 ((x9.length : Int) - 1))).f0) + ((rd_T61 x9 (wrap64 ((x9.length : Int) - 1))).f1))) = ((rd_T61 x55 x57).f0) then (spec_l9Extents.l2 k (x9.set ((wrap64 ((x9.length : Int) - 1)) : Int).toNat (⟨(rd_T61 x9 (wrap64 ((x9.length : Int) - 1))).f0, wrap64 (((rd_T61 x9 (wrap64 ((x9.length : Int) - 1))).f1) + ((rd_T61 x55 x57).f1))⟩ : S61)) x55 x56 (wrap64 (x57 + 1))) else (if x9.length < 8796093022208 then (spec_l9Extents.l2 k (x9 ++ [(⟨(rd_T61 x55 x57).f0, (rd_T61 x55 x57).f1⟩ : S61)]) x55 x56 (wrap64 (x57 + 1))) else (none))) else (none)) else (none)) else (if x9.length < 8796093022208 then (spec_l9Extents.l2 k (x9 ++ [(⟨(rd_T61 x55 x57).f0, (rd_T61 x55 x57).f1⟩ : S61)]) x55 x56 (wrap64 (x57 + 1))) else (none))) else (none)) else (none)) else (some x9)
end
def spec_l9Extents.f (k : Nat) (l0 : List (S48)) : Option ((List (S61))) := spec_l9Extents.l0 k ([] : List (S61)) l0 (l0.length : Int) 0
theorem spec_l9Extents.mono_l : ∀ k, (∀ y0 y1 y2 y3, LeO (spec_l9Extents.l0 k y0 y1 y2 y3) (spec_l9Extents.l0 (k + 1) y0 y1 y2 y3)) ∧ (∀ y0 y1 y2 y3 y4 y5 y6, LeO (spec_l9Extents.l1 k y0 y1 y2 y3 y4 y5 y6) (spec_l9Extents.l1 (k + 1) y0 y1 y2 y3 y4 y5 y6)) ∧ (∀ y0 y1 y2 y3, LeO (spec_l9Extents.l2 k y0 y1 y2 y3) (spec_l9Extents.l2 (k + 1) y0 y1 y2 y3))
 | 0 => ⟨fun _ _ _ _ r h => by simp [spec_l9Extents.l0] at h, fun _ _ _ _ _ _ _ r h => by simp [spec_l9Extents.l1] at h, fun _ _ _ _ r h => by simp [spec_l9Extents.l2] at h⟩
 | k + 1 => by
  obtain ⟨ih0, ih1, ih2⟩ := spec_l9Extents.mono_l k
  refine ⟨?_, ?_, ?_⟩
  ·
   intro y0 y1 y2 y3
   unfold spec_l9Extents.l0
   repeat' first
   | (with_reducible exact ih0 _ _ _ _)
   | (with_reducible exact ih1 _ _ _ _ _ _ _)
   | (with_reducible exact ih2 _ _ _ _)
   | (with_reducible exact LeO.refl _)
   | (with_reducible exact LeO.none _)
   | (with_reducible refine LeO.ite ?_ ?_)
   | (with_reducible refine LeO.bind ?_ (fun _ => ?_))
   | exact ih0 _ _ _ _
   | exact ih1 _ _ _ _ _ _ _
   | exact ih2 _ _ _ _
   | exact LeO.none _
   | refine LeO.ite ?_ ?_
   | refine LeO.bind ?_ (fun _ => ?_)
  ·
   intro y0 y1 y2 y3 y4 y5 y6
   unfold spec_l9Extents.l1
   repeat' first
   | (with_reducible exact ih0 _ _ _ _)
   | (with_reducible exact ih1 _ _ _ _ _ _ _)
   | (with_reducible exact ih2 _ _ _ _)
   | (with_reducible exact LeO.refl _)
   | (with_reducible exact LeO.none _)
   | (with_reducible refine LeO.ite ?_ ?_)
   | (with_reducible refine LeO.bind ?_ (fun _ => ?_))
   | exact ih0 _ _ _ _
   | exact ih1 _ _ _ _ _ _ _
   | exact ih2 _ _ _ _
   | exact LeO.none _
   | refine LeO.ite ?_ ?_
   | refine LeO.bind ?_ (fun _ => ?_)
  ·
   intro y0 y1 y2 y3
   unfold spec_l9Extents.l2
   repeat' first
   | (with_reducible exact ih0 _ _ _ _)
   | (with_reducible exact ih1 _ _ _ _ _ _ _)
   | (with_reducible exact ih2 _ _ _ _)
   | (with_reducible exact LeO.refl _)
   | (with_reducible exact LeO.none _)
   | (with_reducible refine LeO.ite ?_ ?_)
   | (with_reducible refine LeO.bind ?_ (fun _ => ?_))
   | exact ih0 _ _ _ _
   | exact ih1 _ _ _ _ _ _ _
   | exact ih2 _ _ _ _
   | exact LeO.none _
   | refine LeO.ite ?_ ?_
   | refine LeO.bind ?_ (fun _ => ?_)
theorem spec_l9Extents.mono : ∀ a0 k, LeO (spec_l9Extents.f k a0) (spec_l9Extents.f (k + 1) a0) := by
 intro a0 k
 obtain ⟨ih0, ih1, ih2⟩ := spec_l9Extents.mono_l k
 unfold spec_l9Extents.f
 repeat' first
   | (with_reducible exact ih0 _ _ _ _)
   | (with_reducible exact ih1 _ _ _ _ _ _ _)
   | (with_reducible exact ih2 _ _ _ _)
   | (with_reducible exact LeO.refl _)
   | (with_reducible exact LeO.none _)
   | (with_reducible refine LeO.ite ?_ ?_)
   | (with_reducible refine LeO.bind ?_ (fun _ => ?_))
   | exact ih0 _ _ _ _
   | exact ih1 _ _ _ _ _ _ _
   | exact ih2 _ _ _ _
   | exact LeO.none _
   | refine LeO.ite ?_ ?_
   | refine LeO.bind ?_ (fun _ => ?_)
def spec_l9Extents.T7 : Bool × List (List Nat × List Nat) := (true, [([], []), ([], []), ([1], [1]), ([0, 2], [0, 2]), ([3], [3]), ([4], [4]), ([4], [4]), ([5, 6, 4], [4, 5, 6]), ([7, 4], [4, 7]), ([8, 4], [4, 8]), ([4], [4]), ([10, 4], [4, 10]), ([9, 11, 4], [4, 9, 11]), ([4, 12], [4, 12])])
def spec_l9Extents.B7 : List Nat := [0, 0, 2, 7, 15, 31, 31, 127, 255, 511, 31, 1055, 4095, 8191]
theorem spec_l9Extents.tab7 : rtab .any (opsOf Try.f66 7) = spec_l9Extents.T7 := by kernel_rfl
theorem spec_l9Extents.bits7 : waitsOk spec_l9Extents.T7.2 spec_l9Extents.B7 = true := by kernel_rfl
def spec_l9Extents.T19 : Bool × List (List Nat × List Nat) := (true, [([], []), ([0], [0]), ([1], [1]), ([2], [2]), ([2], [2]), ([3, 4, 2], [2, 3, 4]), ([5, 2], [2, 5]), ([6, 2], [2, 6]), ([2], [2]), ([2], [2]), ([8, 9, 2], [2, 8, 9]), ([10, 2], [2, 10]), ([11, 2], [2, 11]), ([7, 12, 2], [2, 7, 12]), ([2], [2]), ([14, 2], [2, 14]), ([13, 15, 2], [2, 13, 15]), ([2, 16], [2, 16])])
def spec_l9Extents.B19 : List Nat := [0, 1, 3, 7, 7, 31, 63, 127, 7, 7, 775, 1799, 3847, 8191, 7, 16391, 65535, 131071]
theorem spec_l9Extents.tab19 : rtab .any (opsOf Try.f66 19) = spec_l9Extents.T19 := by kernel_rfl
theorem spec_l9Extents.bits19 : waitsOk spec_l9Extents.T19.2 spec_l9Extents.B19 = true := by kernel_rfl
def spec_l9Extents.T20 : Bool × List (List Nat × List Nat) := (true, [([], []), ([], []), ([0, 1], [0, 1]), ([2], [2]), ([3], [3]), ([], []), ([5], [5]), ([4, 6], [4, 6]), ([0, 1, 0, 1, 2, 3, 4, 5, 6, 7], [0, 1]), ([8, 0, 1, 2, 3, 4, 5, 6, 7], [8]), ([9, 7, 0, 1, 2, 3, 4, 5, 6, 7], [7, 9])])
def spec_l9Extents.B20 : List Nat := [0, 0, 3, 7, 15, 0, 32, 127, 255, 511, 1023]
theorem spec_l9Extents.tab20 : rtab .any (opsOf Try.f66 20) = spec_l9Extents.T20 := by kernel_rfl
theorem spec_l9Extents.bits20 : waitsOk spec_l9Extents.T20.2 spec_l9Extents.B20 = true := by kernel_rfl
set_option maxHeartbeats 8000000 in
set_option maxRecDepth 100000 in
theorem spec_l9Extents.calls (k : Nat) (A0 : Option Addr) (c0 : Nat) (l0 : List (S48)) (r : List (S61)) (w : World) (hr0 : Kd.C k48 w A0 l0.length l0) (hc0 : l0.length ≤ c0) (h : spec_l9Extents.f k l0 = some r) :
  Calls Try.prog 66 #[.slice A0 l0.length c0] w fun e w' => ∃ v0_ : Value, e = .returned (v0_) ∧ Kd.R k61 61 w' w.heap.size (fun _ => True) v0_ r ∧ Below w.heap.size w w' := by
 have hu48 := Try.underlying48
 have hu61 := Try.underlying61
 have HR0 := Aside0.mk hr0
 have HC0 := Aside0.mk hc0
 clear hr0 hc0
 have HB := Aside0.mk (Below.refl w.heap.size w)
 have H : (spec_l9Extents.l0 k ([] : List (S61)) l0 (l0.length : Int) 0) = some r := h
 clear h
 have H' := Aside0.mk H
 clear H
 go_enter Try.func66, Try.ntmps66
 go_wp2
 go_loopg [3, 15] k (fun kq v3 v15 w' => ∃ (x3_1 : List (S61)) (x15_1 : Int), v15 = .int .i64 x15_1 ∧ Aside0 (spec_l9Extents.l0 kq x3_1 l0 (l0.length : Int) x15_1 = some r) ∧ Aside0 (kq ≤ k) ∧ Aside0 (Kd.R k61 61 w' w.heap.size (fun _ => True) v3 x3_1) ∧ Aside0 (Below w.heap.size w w'))
 case atStart => exact ⟨(([] : List (S61))), (0), (by first | rfl | (simp; done) | (simp [*]; done)), H', ⟨Nat.le_refl _⟩, ⟨by first | exact Kd.R_nil _ _ _ _ _ | exact Kd.N_nil _ _ _ _ _ | exact Kd.V_nil _ _ _ _ _ | exact Kd.Q_nil _ _ _ _ _ | exact Kd.S_nil _ _ _ _ _⟩, ⟨bs HB⟩⟩
 case round =>
  clear H'
  obtain ⟨x3_1, x15_1, rfl, HA, HK1, HO_3, HB⟩ := hrel
  cases gk with
  | zero => exact absurd HA.out (by simp [spec_l9Extents.l0])
  | succ k1 =>
   have H := HA.out
   clear HA
   simp only [spec_l9Extents.l0] at H
   by_cases c2 : x15_1 < (l0.length : Int)
   ·
    rw [if_pos c2] at H
    have c2b0 : decide (x15_1 < (l0.length : Int)) = true := decide_eq_true c2
    clear c2
    by_cases c3 : 0 ≤ x15_1
    ·
     rw [if_pos c3] at H
     have c3b0 : decide (0 ≤ x15_1) = true := decide_eq_true c3
     clear c3
     by_cases c4 : x15_1 < (l0.length : Int)
     ·
      rw [if_pos c4] at H
      have c4b0 : decide (x15_1 < (l0.length : Int)) = true := decide_eq_true c4
      clear c4
      have H' := Aside0.mk H
      clear H
      have p499 : 0 ≤ (x15_1 : Int) := of_decide_eq_true (by first | (with_reducible assumption) | assumption)
      have q499 : x15_1 < (l0.length : Int) := of_decide_eq_true (by first | (with_reducible assumption) | assumption)
      obtain ⟨ad499, e499, hx499_0, hx499_1, hx499_2, hx499_3⟩ := at_T48 HR0.out x15_1 p499 q499
      cases e499
      replace hx499_0 := (HB.out.cell (World.block_lt_of_cell? w _ hx499_0)).trans hx499_0
      replace hx499_1 := (HB.out.cell (World.block_lt_of_cell? w _ hx499_1)).trans hx499_1
      replace hx499_2 := (HB.out.cell (World.block_lt_of_cell? w _ hx499_2)).trans hx499_2
      replace hx499_3 := (HB.out.cell (World.block_lt_of_cell? w _ hx499_3)).trans hx499_3
      replace p499 := eq_true p499
      replace q499 := eq_true q499
      go_wp2_with (first | ((with_reducible refine gate_dst (N := 5) rfl ?_); refine box_event ?hg (N := 5) ?hd (cs := #[.int .i64 0, .int .i64 0, .int .i64 0, .bool false]) (t := 48) ?hr ?_; (case hd => rfl); (case hg => rfl); (case hr => first | (go_simp; done) | (go_simp; rfl)); intro gb500 hg w5 hbox hb; replace HO_3 := nr HO_3 hb; have BK500 := Aside0.mk (hbox); have GW500 := Aside0.mk ((by rw [hg]; exact (below_size (bs HB)) : w.heap.size ≤ gb500)); have GE500 := Aside0.mk ((by rw [hg]; exact (below_size (bs HB)) : w.heap.size ≤ gb500)); replace HB := Aside0.mk (below_step (bs HB) hb); clear hb hbox hg; obtain ⟨hcz6_0, hcz6_1, hcz6_2, hcz6_3⟩ := cz4 BK500; obtain ⟨hfz6_0, hfz6_1, hfz6_2, hfz6_3⟩ := fz4 BK500) | ((with_reducible refine gate_dst (N := 6) rfl ?_); refine box_event ?hg (N := 6) ?hd (cs := #[.int .i64 0, .int .i64 0]) (t := 61) ?hr ?_; (case hd => rfl); (case hg => rfl); (case hr => first | (go_simp; done) | (go_simp; rfl)); intro gb501 hg w7 hbox hb; replace HO_3 := Aside0.mk (Kd.R_below (Kd.R_elderB (by (with_reducible repeat (first | apply Kd.R_alloc | apply Kd.R_drewN | apply Kd.R_drew)); exact (Kd.R_mono (Kd.R_far (p := ⟨gb500, 3, none⟩) (Kd.R_far (p := ⟨gb500, 2, none⟩) (Kd.R_far (p := ⟨gb500, 1, none⟩) (Kd.R_far (p := ⟨gb500, 0, none⟩) (Kd.R_types HO_3.out BK500.out (by decide)) (fun _ hk => hk.2) (.int .i64 ((rd_T48 l0 x15_1).f0))) (fun _ hk => hk.2) (.int .i64 ((rd_T48 l0 x15_1).f1))) (fun _ hk => hk.2) (.int .i64 ((rd_T48 l0 x15_1).f2))) (fun _ hk => hk.2) (.bool ((rd_T48 l0 x15_1).f3))) (fun _ h_ => h_.1))) gb501 (Nat.le_of_eq hg.symm)) hb); have BK501 := Aside0.mk (hbox); have GW501 := Aside0.mk ((by rw [hg]; exact (below_size (bs1 HB GE500)) : w.heap.size ≤ gb501)); have GE501 := Aside0.mk ((by rw [hg]; exact (below_size (bs1 HB GE500)) : w.heap.size ≤ gb501)); replace HB := Aside0.mk (below_step (bs1 HB GE500) hb); have NB500_501 := Aside0.mk ((bnz BK500 hg : gb500 ≠ gb501)); have NB501_500 := Aside0.mk ((bmz BK500 hg : gb501 ≠ gb500)); replace BK500 := Aside0.mk (blk_below (g := gb500) (o := .cells #[.int .i64 ((rd_T48 l0 x15_1).f0), .int .i64 ((rd_T48 l0 x15_1).f1), .int .i64 ((rd_T48 l0 x15_1).f2), .bool ((rd_T48 l0 x15_1).f3)] 48 (0, 0)) (by (with_reducible repeat (first | refine blk_drewN ?_ _ | refine blk_drew ?_ | refine blk_alloc ?_ _)); refine blk_put (cs := #[.int .i64 ((rd_T48 l0 x15_1).f0), .int .i64 ((rd_T48 l0 x15_1).f1), .int .i64 ((rd_T48 l0 x15_1).f2), .bool false]) ?_ 3 _ rfl; (with_reducible repeat (first | refine blk_drewN ?_ _ | refine blk_drew ?_ | refine blk_alloc ?_ _)); refine blk_put (cs := #[.int .i64 ((rd_T48 l0 x15_1).f0), .int .i64 ((rd_T48 l0 x15_1).f1), .int .i64 0, .bool false]) ?_ 2 _ rfl; (with_reducible repeat (first | refine blk_drewN ?_ _ | refine blk_drew ?_ | refine blk_alloc ?_ _)); refine blk_put (cs := #[.int .i64 ((rd_T48 l0 x15_1).f0), .int .i64 0, .int .i64 0, .bool false]) ?_ 1 _ rfl; (with_reducible repeat (first | refine blk_drewN ?_ _ | refine blk_drew ?_ | refine blk_alloc ?_ _)); refine blk_put (cs := #[.int .i64 0, .int .i64 0, .int .i64 0, .bool false]) ?_ 0 _ rfl; (with_reducible repeat (first | refine blk_drewN ?_ _ | refine blk_drew ?_ | refine blk_alloc ?_ _)); exact BK500.out) hb); clear hb hbox hg; have hnb8 := NB501_500.out; have hnc8 := NB500_501.out; obtain ⟨hcz9_0, hcz9_1⟩ := cz2 BK501; obtain ⟨hfz9_0, hfz9_1⟩ := fz2 BK501))
      go_loopg [7] k1 (fun kq v7 w' => ∃ (x7_2 : Int), v7 = .int .i64 x7_2 ∧ Aside0 (spec_l9Extents.l1 kq x3_1 x7_2 l0 (l0.length : Int) x15_1 ((rd_T48 l0 x15_1).f2) ((rd_T48 l0 x15_1).f1) = some r) ∧ Aside0 (kq ≤ k1) ∧ Aside0 (Kd.R k61 61 w' w.heap.size (fun k_ => k_ ≠ gb501) u3 x3_1) ∧ Aside0 (w'.heap[gb500]? = some (.cells #[.int .i64 ((rd_T48 l0 x15_1).f0), .int .i64 ((rd_T48 l0 x15_1).f1), .int .i64 ((rd_T48 l0 x15_1).f2), .bool ((rd_T48 l0 x15_1).f3)] 48 (0, 0))) ∧ Aside0 (w'.heap[gb501]? = some (.cells #[.int .i64 ((rd_T48 l0 x15_1).f2), .int .i64 ((rd_T48 l0 x15_1).f1)] 61 (0, 0))) ∧ Aside0 (Below w.heap.size w w'))
      case atStart => exact ⟨(0), (by first | rfl | (simp; done) | (simp [*]; done)), H', ⟨Nat.le_refl _⟩, ⟨by (with_reducible repeat (first | apply Kd.R_alloc | apply Kd.R_drewN | apply Kd.R_drew)); exact Kd.R_mono (Kd.R_far (p := ⟨gb501, 1, none⟩) (Kd.R_far (p := ⟨gb501, 0, none⟩) (Kd.R_mono HO_3.out (fun k_ hk => (⟨hk, hk.2⟩ : _ ∧ k_ ≠ gb501))) (fun _ hk => hk.2) (.int .i64 ((rd_T48 l0 x15_1).f2))) (fun _ hk => hk.2) (.int .i64 ((rd_T48 l0 x15_1).f1))) (fun _ hk => hk.1.2)⟩, ⟨bf BK500 NB500_501⟩, ⟨by (with_reducible repeat (first | refine blk_drewN ?_ _ | refine blk_drew ?_ | refine blk_alloc ?_ _)); refine blk_put (cs := #[.int .i64 ((rd_T48 l0 x15_1).f2), .int .i64 0]) ?_ 1 _ rfl; (with_reducible repeat (first | refine blk_drewN ?_ _ | refine blk_drew ?_ | refine blk_alloc ?_ _)); refine blk_put (cs := #[.int .i64 0, .int .i64 0]) ?_ 0 _ rfl; (with_reducible repeat (first | refine blk_drewN ?_ _ | refine blk_drew ?_ | refine blk_alloc ?_ _)); exact BK501.out⟩, ⟨bs2 HB GE500 GE501⟩⟩
      case round =>
       clear H'
       try clear c2
       try clear c2b0
       try clear p2
       try clear c3
       try clear c3b0
       try clear c4
       try clear c4b0
       try clear p4
       try clear q4
       try clear hx4
       try clear c6
       try clear c8
       try clear hcz6_0 hcz6_1 hcz6_2 hcz6_3
       try clear hcz9_0 hcz9_1
       try clear hfz6_0 hfz6_1 hfz6_2 hfz6_3
       try clear hfz9_0 hfz9_1
       try clear hx499_0
       try clear hx499_1
       try clear hx499_2
       try clear hx499_3
       try clear p499
       try clear q499
       obtain ⟨x7_2, rfl, HA, HK2, HO_3, BK500, BK501, HB⟩ := hrel
       cases gk with
       | zero => exact absurd HA.out (by simp [spec_l9Extents.l1])
       | succ k2 =>
        have H := HA.out
        clear HA
        simp only [spec_l9Extents.l1] at H
        by_cases c10 : x7_2 < (x3_1.length : Int)
        ·
         rw [if_pos c10] at H
         have c10b0 : decide (x7_2 < (x3_1.length : Int)) = true := decide_eq_true c10
         clear c10
         by_cases c11 : 0 ≤ x7_2
         ·
          rw [if_pos c11] at H
          have c11b0 : decide (0 ≤ x7_2) = true := decide_eq_true c11
          clear c11
          by_cases c12 : ((rd_T61 x3_1 x7_2).f0) < ((rd_T48 l0 x15_1).f2)
          ·
           rw [if_pos c12] at H
           have c12b0 : decide (((rd_T61 x3_1 x7_2).f0) < ((rd_T48 l0 x15_1).f2)) = true := decide_eq_true c12
           clear c12
           have H' := Aside0.mk H
           clear H
           try go_wp2
           have n0_ := Aside0.mk (Kd.R_drew HO_3.out)
           have n1_ := Aside0.mk (blk_drew BK500.out)
           have n2_ := Aside0.mk (blk_drew BK501.out)
           have n3_ := Aside0.mk (below_drew1 HB.out)
           clear HO_3
           clear BK500
           clear BK501
           clear HB
           have HO_3 := n0_
           have BK500 := n1_
           have BK501 := n2_
           have HB := n3_
           clear n0_ n1_ n2_ n3_
           obtain ⟨Ao14, co14, eo14⟩ := Kd.R_slice HO_3.out
           (first | subst eo14 | (injection eo14 with f1_ f2_ f3_; have f4_ := f1_.symm; have f5_ := f3_.symm; clear f1_ f2_ f3_; subst f4_; subst f5_))
           have p502 : 0 ≤ (x7_2 : Int) := of_decide_eq_true (by first | (with_reducible assumption) | assumption)
           have q502 : x7_2 < (x3_1.length : Int) := of_decide_eq_true (by first | (with_reducible assumption) | assumption)
           obtain ⟨ad502, e502, hx502_0, hx502_1⟩ := at_T61 (Kd.R_reads' HO_3.out).2.2 x7_2 p502 q502
           cases e502
           replace p502 := eq_true p502
           replace q502 := eq_true q502
           refine start_ (n := 14) (S := fun w' => w'.cell? ⟨gb501, 0, none⟩ = some (.int .i64 ((rd_T48 l0 x15_1).f2)) ∧ w'.cell? ⟨gb501, 1, none⟩ = some (.int .i64 ((rd_T48 l0 x15_1).f1)) ∧ w'.cell? (ad502.add ((x7_2).toNat * 2)) = some (.int .i64 ((rd_T61 x3_1 x7_2).f0)) ∧ w'.cell? ⟨(ad502.add ((x7_2).toNat * 2)).block, (ad502.add ((x7_2).toNat * 2)).off + 1, none⟩ = some (.int .i64 ((rd_T61 x3_1 x7_2).f1))) (ds := []) #[false, false, false, false, false, false, false, false, false, false, false, false, false, false] (by kernel_rfl) rfl rfl ⟨(blk_cell BK501.out 0).trans rfl, (blk_cell BK501.out 1).trans rfl, hx502_0, hx502_1⟩ (fun hHeld => ?_); refine with_tabW spec_l9Extents.tab7 spec_l9Extents.bits7 (fun HT_ HW_ => ?_)
           generalize wr.drew = w13 at HO_3 BK500 BK501 HB hx502_0 hx502_1 hHeld ⊢
           refine pureS 0 24 HT_.out ?_
           refine pureS 1 25 HT_.out ?_
           refine pureS 2 26 HT_.out ?_
           refine pureS 3 27 HT_.out ?_
           refine pureS 4 28 HT_.out ?_
           refine pureS 5 29 HT_.out ?_
           refine pureS 6 30 HT_.out ?_
           refine pureS 7 31 HT_.out ?_
           refine pureS 8 32 HT_.out ?_
           refine pureS 10 34 HT_.out ?_
           refine takeS 9 33 HT_.out HW_.out hHeld (hr := by rintro w' ⟨s0, s1, s2, s3⟩; go_simp; with_reducible rfl) (h := ?_)
           refine takeS 11 35 HT_.out HW_.out hHeld (hr := by rintro w' ⟨s0, s1, s2, s3⟩; go_simp; with_reducible rfl) (h := ?_)
           refine pureS 12 36 HT_.out ?_
           refine pureS 13 37 HT_.out ?_
           refine done_ (done_of HT_.out (by kernel_rfl)) ?_
           try go_wp2
           go_roundg k2
           case measure => have := HK1.out; have := HK2.out; omega
           case rel => exact ⟨(wrap64 (x7_2 + 1)), (by first | rfl | (simp; done) | (simp [*]; done)), H', ⟨by have := HK1.out; have := HK2.out; omega⟩, ⟨rr HO_3.out⟩, ⟨bk BK500⟩, ⟨bk BK501⟩, ⟨bs2 HB GE500 GE501⟩⟩
          ·
           rw [if_neg c12] at H
           have c12b0 : decide (((rd_T61 x3_1 x7_2).f0) < ((rd_T48 l0 x15_1).f2)) = false := decide_eq_false c12
           clear c12
           have c15b0 := eq_true (of_decide_eq_true (by first | (with_reducible assumption) | assumption) : 0 ≤ x7_2)
           by_cases c16 : x7_2 ≤ (x3_1.length : Int)
           ·
            rw [if_pos c16] at H
            have c16b0 := eq_true c16
            have c16b1 : decide (x7_2 ≤ (x3_1.length : Int)) = true := decide_eq_true c16
            clear c16
            obtain ⟨y503, hy503⟩ : ∃ y_ : List (S61), y_ = (x3_1.take (x7_2 : Int).toNat) := ⟨_, rfl⟩
            replace H : (if ([] : List (S61)).length + y503.length < 8796093022208 then ((some (([] : List (S61)) ++ y503 : List (S61))).bind fun y507 => (if y507.length < 8796093022208 then ((some (y507 ++ [(⟨((rd_T48 l0 x15_1).f2), ((rd_T48 l0 x15_1).f1)⟩ : S61)] : List (S61))).bind fun y510 => ((some (x3_1.drop (x7_2 : Int).toNat : List (S61))).bind fun y513 => (if y510.length + y513.length < 8796093022208 then (spec_l9Extents.l0 k2 (y510 ++ y513) l0 (l0.length : Int) (wrap64 (x15_1 + 1))) else (none)))) else (none))) else (none)) = some r := by first | (rw [hy503]; with_reducible exact H) | (have H2_ := (Option.bind_some _ _).symm.trans H; rw [hy503]; with_reducible exact H2_) | (have H2_ := (Option.bind_some _ _).symm.trans H; with_reducible exact H2_) | with_reducible exact H | (rw [hy503]; exact H) | exact H
            have Ny503 := Aside0.mk hy503
            clear hy503
            by_cases c17 : ([] : List (S61)).length + y503.length < 8796093022208
            ·
             rw [if_pos c17] at H
             have LMc17 := Aside0.mk c17
             clear c17
             obtain ⟨y507, hy507⟩ : ∃ y_ : List (S61), y_ = (([] : List (S61)) ++ y503) := ⟨_, rfl⟩
             replace H : (if y507.length < 8796093022208 then ((some (y507 ++ [(⟨((rd_T48 l0 x15_1).f2), ((rd_T48 l0 x15_1).f1)⟩ : S61)] : List (S61))).bind fun y510 => ((some (x3_1.drop (x7_2 : Int).toNat : List (S61))).bind fun y513 => (if y510.length + y513.length < 8796093022208 then (spec_l9Extents.l0 k2 (y510 ++ y513) l0 (l0.length : Int) (wrap64 (x15_1 + 1))) else (none)))) else (none)) = some r := by first | (rw [hy507]; with_reducible exact H) | (have H2_ := (Option.bind_some _ _).symm.trans H; rw [hy507]; with_reducible exact H2_) | (have H2_ := (Option.bind_some _ _).symm.trans H; with_reducible exact H2_) | with_reducible exact H | (rw [hy507]; exact H) | exact H
             have Ny507 := Aside0.mk hy507
             clear hy507
             by_cases c18 : y507.length < 8796093022208
             ·
              rw [if_pos c18] at H
              have LMc18 := Aside0.mk c18
              clear c18
              obtain ⟨y510, hy510⟩ : ∃ y_ : List (S61), y_ = (y507 ++ [(⟨((rd_T48 l0 x15_1).f2), ((rd_T48 l0 x15_1).f1)⟩ : S61)]) := ⟨_, rfl⟩
              replace H : ((some (x3_1.drop (x7_2 : Int).toNat : List (S61))).bind fun y513 => (if y510.length + y513.length < 8796093022208 then (spec_l9Extents.l0 k2 (y510 ++ y513) l0 (l0.length : Int) (wrap64 (x15_1 + 1))) else (none))) = some r := by first | (rw [hy510]; with_reducible exact H) | (have H2_ := (Option.bind_some _ _).symm.trans H; rw [hy510]; with_reducible exact H2_) | (have H2_ := (Option.bind_some _ _).symm.trans H; with_reducible exact H2_) | with_reducible exact H | (rw [hy510]; exact H) | exact H
              have Ny510 := Aside0.mk hy510
              clear hy510
              have c19b0 := eq_true (of_decide_eq_true (by first | (with_reducible assumption) | assumption) : 0 ≤ x7_2)
              have c20b0 := eq_true (of_decide_eq_true (by first | (with_reducible assumption) | assumption) : x7_2 ≤ (x3_1.length : Int))
              obtain ⟨y513, hy513⟩ : ∃ y_ : List (S61), y_ = (x3_1.drop (x7_2 : Int).toNat) := ⟨_, rfl⟩
              replace H : (if y510.length + y513.length < 8796093022208 then (spec_l9Extents.l0 k2 (y510 ++ y513) l0 (l0.length : Int) (wrap64 (x15_1 + 1))) else (none)) = some r := by first | (rw [hy513]; with_reducible exact H) | (have H2_ := (Option.bind_some _ _).symm.trans H; rw [hy513]; with_reducible exact H2_) | (have H2_ := (Option.bind_some _ _).symm.trans H; with_reducible exact H2_) | with_reducible exact H | (rw [hy513]; exact H) | exact H
              have Ny513 := Aside0.mk hy513
              clear hy513
              by_cases c21 : y510.length + y513.length < 8796093022208
              ·
               rw [if_pos c21] at H
               have LMc21 := Aside0.mk c21
               clear c21
               obtain ⟨y517, hy517⟩ : ∃ y_ : List (S61), y_ = (y510 ++ y513) := ⟨_, rfl⟩
               replace H : (spec_l9Extents.l0 k2 y517 l0 (l0.length : Int) (wrap64 (x15_1 + 1))) = some r := by first | (rw [hy517]; with_reducible exact H) | (have H2_ := (Option.bind_some _ _).symm.trans H; rw [hy517]; with_reducible exact H2_) | (have H2_ := (Option.bind_some _ _).symm.trans H; with_reducible exact H2_) | with_reducible exact H | (rw [hy517]; exact H) | exact H
               have Ny517 := Aside0.mk hy517
               clear hy517
               have H' := Aside0.mk H
               clear H
               try go_wp2
               have n0_ := Aside0.mk (Kd.R_drew HO_3.out)
               have n1_ := Aside0.mk (blk_drew BK500.out)
               have n2_ := Aside0.mk (blk_drew BK501.out)
               have n3_ := Aside0.mk (below_drew1 HB.out)
               clear HO_3
               clear BK500
               clear BK501
               clear HB
               have HO_3 := n0_
               have BK500 := n1_
               have BK501 := n2_
               have HB := n3_
               clear n0_ n1_ n2_ n3_
               obtain ⟨Ao23, co23, eo23⟩ := Kd.R_slice HO_3.out
               (first | subst eo23 | (injection eo23 with f1_ f2_ f3_; have f4_ := f1_.symm; have f5_ := f3_.symm; clear f1_ f2_ f3_; subst f4_; subst f5_))
               have p502 : 0 ≤ (x7_2 : Int) := of_decide_eq_true (by first | (with_reducible assumption) | assumption)
               have q502 : x7_2 < (x3_1.length : Int) := of_decide_eq_true (by first | (with_reducible assumption) | assumption)
               obtain ⟨ad502, e502, hx502_0, hx502_1⟩ := at_T61 (Kd.R_reads' HO_3.out).2.2 x7_2 p502 q502
               cases e502
               replace p502 := eq_true p502
               replace q502 := eq_true q502
               refine start_ (n := 14) (S := fun w' => w'.cell? ⟨gb501, 0, none⟩ = some (.int .i64 ((rd_T48 l0 x15_1).f2)) ∧ w'.cell? ⟨gb501, 1, none⟩ = some (.int .i64 ((rd_T48 l0 x15_1).f1)) ∧ w'.cell? (ad502.add ((x7_2).toNat * 2)) = some (.int .i64 ((rd_T61 x3_1 x7_2).f0)) ∧ w'.cell? ⟨(ad502.add ((x7_2).toNat * 2)).block, (ad502.add ((x7_2).toNat * 2)).off + 1, none⟩ = some (.int .i64 ((rd_T61 x3_1 x7_2).f1))) (ds := []) #[false, false, false, false, false, false, false, false, false, false, false, false, false, false] (by kernel_rfl) rfl rfl ⟨(blk_cell BK501.out 0).trans rfl, (blk_cell BK501.out 1).trans rfl, hx502_0, hx502_1⟩ (fun hHeld => ?_); refine with_tabW spec_l9Extents.tab7 spec_l9Extents.bits7 (fun HT_ HW_ => ?_)
               generalize wr.drew = w22 at HO_3 BK500 BK501 HB hx502_0 hx502_1 hHeld ⊢
               refine pureS 0 24 HT_.out ?_
               refine pureS 1 25 HT_.out ?_
               refine pureS 2 26 HT_.out ?_
               refine pureS 3 27 HT_.out ?_
               refine pureS 4 28 HT_.out ?_
               refine pureS 5 29 HT_.out ?_
               refine pureS 6 30 HT_.out ?_
               refine pureS 7 31 HT_.out ?_
               refine pureS 8 32 HT_.out ?_
               refine pureS 10 34 HT_.out ?_
               refine takeS 9 33 HT_.out HW_.out hHeld (hr := by rintro w' ⟨s0, s1, s2, s3⟩; go_simp; with_reducible rfl) (h := ?_)
               refine takeS 11 35 HT_.out HW_.out hHeld (hr := by rintro w' ⟨s0, s1, s2, s3⟩; go_simp; with_reducible rfl) (h := ?_)
               refine pureS 12 36 HT_.out ?_
               refine pureS 13 37 HT_.out ?_
               refine done_ (done_of HT_.out (by kernel_rfl)) ?_
               have q24 : (x7_2 : Int) ≤ ((x3_1.length : Int) : Int) := of_decide_eq_true (by first | (with_reducible assumption) | assumption)
               obtain ⟨i024, hi024, _, hsz24, _⟩ := info_parts info61
               have hroom24 : x3_1.length ≤ co23 := (Kd.R_reads' HO_3.out).2.1
               have hC24 : Kd.C k61 _ (some ad502) x3_1.length x3_1 := (Kd.R_reads' HO_3.out).2.2
               have hcut24 := cut_to (P := Try.prog) 38 61 .i64 Try.underlying38 hi024 (some ad502) x3_1.length co23 x7_2 (of_decide_eq_true (by first | (with_reducible assumption) | assumption)) q24 hroom24
               have hr24 := Kd.C_take (m := (x7_2 : Int).toNat) hC24 (by omega)
               have hy24 : y503.length = (x7_2 : Int).toNat := (by rw [Ny503.out, List.length_take]; omega)
               rw [← Ny503.out] at hr24
               rw [← hy24] at hcut24
               have HR506 := Aside0.mk hr24
               have HC506 := Aside0.mk (show y503.length ≤ co23 from by omega)
               clear hr24 hC24 hroom24 hi024 hsz24
               have KY24 := Aside0.mk hy24
               clear hy24
               have KL24 := Aside0.mk (show (x7_2 : Int).toNat ≤ x3_1.length from by omega)
               replace q24 := eq_true q24
               try go_wp2_with (first | ((with_reducible refine gate_builtin (b := .append) (xs := #[.tmp 40, .tmp 43]) rfl ?_); at_builtin; refine Kd.R_append_rows k61 (w0 := w) w.heap.size rfl (.tmp 40) (.tmp 43) 38 61 (.agg #[(.int .i64 0), (.int .i64 0)]) 16 rfl Try.underlying38 info61 rfl (by decide) (by omega) (.slice none 0 0) ([] : List (S61)) y503 _ _ _ (fun k_ => some k_ ≠ (.slice (some ad502) x3_1.length co23 : Value).ownBlock ∧ k_ ≠ gb501) (fun _ => False) rfl rfl ?aO ?aR (fun _ _ h => h) (fun _ h => h.elim) ?aF ?aB ?aS ?aL ?_; (case aR => repeat (first | exact (by repeat (first | (with_reducible exact HR506.out) | (with_reducible refine Kd.C_alloc ?_ _) | (with_reducible refine Kd.C_drewN ?_ _) | (with_reducible refine Kd.C_drew ?_) | exact HR506.out)) | (with_reducible refine Kd.C_alloc ?_ _) | (with_reducible refine Kd.C_drewN ?_ _) | (with_reducible refine Kd.C_drew ?_))); (case aB => exact (bs2 HB GE500 GE501)); (case aF => exact (fun k_ hk => ⟨Kd.fresh' (Kd.R_lt (rr HO_3.out)) k_ hk, Kd.freshB (bk BK501) k_ hk⟩)); (case aO => exact ((Kd.R_nil _ _ _ _ (fun k_ => some k_ ≠ (.slice (some ad502) x3_1.length co23 : Value).ownBlock ∧ k_ ≠ gb501)))); (case aS => exact (below_size (bs2 HB GE500 GE501))); (case aL => have := LMc17.out; omega); intro v508 w25 ho hb hg hat; rw [← Ny507.out] at ho; replace BK500 := Aside0.mk (blk_grown (bk BK500) hg (by simp [Value.ownBlock])); replace BK501 := Aside0.mk (blk_grown (bk BK501) hg (by simp [Value.ownBlock])); replace HB := Aside0.mk (hb); replace HR506 := Aside0.mk ((show Kd.C k61 w25 (some ad502) y503.length y503 from by rw [Ny503.out]; exact Kd.C_take (m := (x7_2 : Int).toNat) ((Kd.R_reads' (Kd.R_after (Kd.R_apart_nil (rr HO_3.out)) hg hat)).2.2) KL24.out)); replace HO_3 := Aside0.mk (Kd.R_after (Kd.R_apart_nil (rr HO_3.out)) hg hat); have HO509 := Aside0.mk (ho); clear ho hb hg hat; have hnb26 := NB501_500.out; have hnc26 := NB500_501.out; obtain ⟨hcz27_0, hcz27_1⟩ := cz2 BK501; obtain ⟨hfz27_0, hfz27_1⟩ := fz2 BK501) | ((with_reducible refine gate_builtin (b := .append) (xs := #[.tmp 45, .tmp 47]) rfl ?_); at_builtin; refine Kd.R_append k61 (w0 := w) w.heap.size rfl (.tmp 45) (.tmp 47) 38 61 (.agg #[(.int .i64 0), (.int .i64 0)]) 16 rfl Try.underlying38 info61 rfl (by decide) (by omega) v508 y507 (⟨((rd_T48 l0 x15_1).f2), ((rd_T48 l0 x15_1).f1)⟩ : S61) [.int .i64 ((rd_T48 l0 x15_1).f2), .int .i64 ((rd_T48 l0 x15_1).f1)] (fun k_ => some k_ ≠ (.slice (some ad502) x3_1.length co23 : Value).ownBlock ∧ k_ ≠ gb501) (fun _ => False) rfl rfl ?aP (fun _ hk => hk.elim) ?aF ?aO ?aB ?aS ?aL ?_; (case aP => exact k61_mkM _ _ _ (⟨((rd_T48 l0 x15_1).f2), ((rd_T48 l0 x15_1).f1)⟩ : S61)); (case aB => exact (bs2 HB GE500 GE501)); (case aF => exact (fun k_ hk => ⟨Kd.fresh' (Kd.R_lt (rr HO_3.out)) k_ hk, Kd.freshB (bk BK501) k_ hk⟩)); (case aO => exact (rr HO509.out)); (case aS => exact (below_size (bs2 HB GE500 GE501))); (case aL => have := LMc18.out; omega); intro v511 w28 ho hb hg hat; rw [← Ny510.out] at ho; replace BK500 := Aside0.mk (blk_grown (bk BK500) hg (Kd.R_ne HO509.out BK500.out (by decide))); replace BK501 := Aside0.mk (blk_grown (bk BK501) hg (Kd.R_away HO509.out (fun _ hk => hk.2))); replace HB := Aside0.mk (hb); replace HR506 := Aside0.mk ((show Kd.C k61 w28 (some ad502) y503.length y503 from by rw [Ny503.out]; exact Kd.C_take (m := (x7_2 : Int).toNat) ((Kd.R_reads' (Kd.R_after (ok := (fun k_ => k_ ≠ gb501)) (rr HO_3.out) hg hat)).2.2) KL24.out)); replace HO_3 := Aside0.mk (Kd.R_after (ok := (fun k_ => k_ ≠ gb501)) (rr HO_3.out) hg hat); have HO512 := Aside0.mk (ho); clear HO509; clear ho hb hg hat; have q29 : (x7_2 : Int) ≤ ((x3_1.length : Int) : Int) := of_decide_eq_true (by first | (with_reducible assumption) | assumption); obtain ⟨i029, hi029, _, hsz29, _⟩ := info_parts info61; have hroom29 : x3_1.length ≤ co23 := (Kd.R_reads' HO_3.out).2.1; have hC29 : Kd.C k61 _ (some ad502) x3_1.length x3_1 := (Kd.R_reads' HO_3.out).2.2; have q029 : (0 : Int) ≤ (x7_2 : Int) := of_decide_eq_true (by first | (with_reducible assumption) | assumption); have hcut29 := cut_from (P := Try.prog) 38 61 .i64 Try.underlying38 hi029 2 hsz29 (some ad502) x3_1.length co23 x7_2 q029 q29; have hr29 := Kd.C_drop (m := (x7_2 : Int).toNat) (c := co23) hC29 (by omega) hroom29; obtain ⟨A29, hA29⟩ : ∃ A1, A1 = (if co23 = (x7_2 : Int).toNat then (some ad502) else ((some ad502) : Option Addr).map (·.add ((x7_2 : Int).toNat * 2))) := ⟨_, rfl⟩; obtain ⟨c29, hc29⟩ : ∃ c1, c1 = co23 - (x7_2 : Int).toNat := ⟨_, rfl⟩; have hy29 : y513.length = x3_1.length - (x7_2 : Int).toNat := (by rw [Ny513.out, List.length_drop] <;> omega); rw [show (x3_1).drop (x7_2 : Int).toNat = y513 from Ny513.out.symm] at hr29; replace hr29 : Kd.C k61 _ A29 y513.length y513 := (by rw [hA29]; exact hr29); rw [← hy29, ← hA29, ← hc29] at hcut29; have HR516 := Aside0.mk hr29; have HC516 := Aside0.mk (show y513.length ≤ c29 from by rw [hy29, hc29]; exact Nat.sub_le_sub_right hroom29 _); clear hr29 hC29 hroom29 hi029 hsz29 hc29; have KY29 := Aside0.mk hy29; have KA29 := Aside0.mk hA29; clear hy29 hA29; have KL29 := Aside0.mk (show (x7_2 : Int).toNat ≤ x3_1.length from by omega); replace q29 := eq_true q29) | ((with_reducible refine gate_builtin (b := .append) (xs := #[.tmp 49, .tmp 52]) rfl ?_); at_builtin; refine Kd.R_append_rows k61 (w0 := w) w.heap.size rfl (.tmp 49) (.tmp 52) 38 61 (.agg #[(.int .i64 0), (.int .i64 0)]) 16 rfl Try.underlying38 info61 rfl (by decide) (by omega) v511 y510 y513 _ _ _ (fun k_ => some k_ ≠ (.slice (some ad502) x3_1.length co23 : Value).ownBlock ∧ k_ ≠ gb501) (fun _ => False) rfl rfl ?aO ?aR (fun _ _ h => h) (fun _ h => h.elim) ?aF ?aB ?aS ?aL ?_; (case aR => repeat (first | exact (by repeat (first | (with_reducible exact HR516.out) | (with_reducible refine Kd.C_alloc ?_ _) | (with_reducible refine Kd.C_drewN ?_ _) | (with_reducible refine Kd.C_drew ?_) | exact HR516.out)) | (with_reducible refine Kd.C_alloc ?_ _) | (with_reducible refine Kd.C_drewN ?_ _) | (with_reducible refine Kd.C_drew ?_))); (case aB => exact (bs2 HB GE500 GE501)); (case aF => exact (fun k_ hk => ⟨Kd.fresh' (Kd.R_lt (rr HO_3.out)) k_ hk, Kd.freshB (bk BK501) k_ hk⟩)); (case aO => exact (rr HO512.out)); (case aS => exact (below_size (bs2 HB GE500 GE501))); (case aL => have := LMc21.out; omega); intro v518 w30 ho hb hg hat; rw [← Ny517.out] at ho; replace BK500 := Aside0.mk (blk_grown (bk BK500) hg (Kd.R_ne HO512.out BK500.out (by decide))); replace BK501 := Aside0.mk (blk_grown (bk BK501) hg (Kd.R_away HO512.out (fun _ hk => hk.2))); replace HB := Aside0.mk (hb); replace HR506 := Aside0.mk ((show Kd.C k61 w30 (some ad502) y503.length y503 from by rw [Ny503.out]; exact Kd.C_take (m := (x7_2 : Int).toNat) ((Kd.R_reads' (Kd.R_after (ok := (fun k_ => k_ ≠ gb501)) (rr HO_3.out) hg hat)).2.2) KL24.out)); replace HR516 := Aside0.mk ((show Kd.C k61 w30 A29 y513.length y513 from by rw [Ny513.out, KA29.out]; exact Kd.C_drop (m := (x7_2 : Int).toNat) (c := co23) ((Kd.R_reads' (Kd.R_after (ok := (fun k_ => k_ ≠ gb501)) (rr HO_3.out) hg hat)).2.2) KL29.out ((Kd.R_reads' (Kd.R_after (ok := (fun k_ => k_ ≠ gb501)) (rr HO_3.out) hg hat)).2.1))); replace HO_3 := Aside0.mk (Kd.R_after (ok := (fun k_ => k_ ≠ gb501)) (rr HO_3.out) hg hat); have HO519 := Aside0.mk (ho); clear HO512; clear ho hb hg hat))
               go_roundg k2
               case measure => have := HK1.out; have := HK2.out; omega
               case rel => exact ⟨(y517), (wrap64 (x15_1 + 1)), (by first | rfl | (simp; done) | (simp [*]; done)), H', ⟨by have := HK1.out; have := HK2.out; omega⟩, rm HO519 (fun _ hk => trivial), ⟨bs2 HB GE500 GE501⟩⟩
              ·
               rw [if_neg c21] at H
               exact absurd H (by simp)
             ·
              rw [if_neg c18] at H
              exact absurd H (by simp)
            ·
             rw [if_neg c17] at H
             exact absurd H (by simp)
           ·
            rw [if_neg c16] at H
            exact absurd H (by simp)
         ·
          rw [if_neg c11] at H
          exact absurd H (by simp)
        ·
         rw [if_neg c10] at H
         have c10b0 : decide (x7_2 < (x3_1.length : Int)) = false := decide_eq_false c10
         clear c10
         by_cases c31 : 0 ≤ x7_2
         ·
          rw [if_pos c31] at H
          have c31b0 := eq_true c31
          have c31b1 : decide (0 ≤ x7_2) = true := decide_eq_true c31
          clear c31
          by_cases c32 : x7_2 ≤ (x3_1.length : Int)
          ·
           rw [if_pos c32] at H
           have c32b0 := eq_true c32
           have c32b1 : decide (x7_2 ≤ (x3_1.length : Int)) = true := decide_eq_true c32
           clear c32
           obtain ⟨y520, hy520⟩ : ∃ y_ : List (S61), y_ = (x3_1.take (x7_2 : Int).toNat) := ⟨_, rfl⟩
           replace H : (if ([] : List (S61)).length + y520.length < 8796093022208 then ((some (([] : List (S61)) ++ y520 : List (S61))).bind fun y524 => (if y524.length < 8796093022208 then ((some (y524 ++ [(⟨((rd_T48 l0 x15_1).f2), ((rd_T48 l0 x15_1).f1)⟩ : S61)] : List (S61))).bind fun y527 => ((some (x3_1.drop (x7_2 : Int).toNat : List (S61))).bind fun y530 => (if y527.length + y530.length < 8796093022208 then (spec_l9Extents.l0 k2 (y527 ++ y530) l0 (l0.length : Int) (wrap64 (x15_1 + 1))) else (none)))) else (none))) else (none)) = some r := by first | (rw [hy520]; with_reducible exact H) | (have H2_ := (Option.bind_some _ _).symm.trans H; rw [hy520]; with_reducible exact H2_) | (have H2_ := (Option.bind_some _ _).symm.trans H; with_reducible exact H2_) | with_reducible exact H | (rw [hy520]; exact H) | exact H
           have Ny520 := Aside0.mk hy520
           clear hy520
           by_cases c33 : ([] : List (S61)).length + y520.length < 8796093022208
           ·
            rw [if_pos c33] at H
            have LMc33 := Aside0.mk c33
            clear c33
            obtain ⟨y524, hy524⟩ : ∃ y_ : List (S61), y_ = (([] : List (S61)) ++ y520) := ⟨_, rfl⟩
            replace H : (if y524.length < 8796093022208 then ((some (y524 ++ [(⟨((rd_T48 l0 x15_1).f2), ((rd_T48 l0 x15_1).f1)⟩ : S61)] : List (S61))).bind fun y527 => ((some (x3_1.drop (x7_2 : Int).toNat : List (S61))).bind fun y530 => (if y527.length + y530.length < 8796093022208 then (spec_l9Extents.l0 k2 (y527 ++ y530) l0 (l0.length : Int) (wrap64 (x15_1 + 1))) else (none)))) else (none)) = some r := by first | (rw [hy524]; with_reducible exact H) | (have H2_ := (Option.bind_some _ _).symm.trans H; rw [hy524]; with_reducible exact H2_) | (have H2_ := (Option.bind_some _ _).symm.trans H; with_reducible exact H2_) | with_reducible exact H | (rw [hy524]; exact H) | exact H
            have Ny524 := Aside0.mk hy524
            clear hy524
            by_cases c34 : y524.length < 8796093022208
            ·
             rw [if_pos c34] at H
             have LMc34 := Aside0.mk c34
             clear c34
             obtain ⟨y527, hy527⟩ : ∃ y_ : List (S61), y_ = (y524 ++ [(⟨((rd_T48 l0 x15_1).f2), ((rd_T48 l0 x15_1).f1)⟩ : S61)]) := ⟨_, rfl⟩
             replace H : ((some (x3_1.drop (x7_2 : Int).toNat : List (S61))).bind fun y530 => (if y527.length + y530.length < 8796093022208 then (spec_l9Extents.l0 k2 (y527 ++ y530) l0 (l0.length : Int) (wrap64 (x15_1 + 1))) else (none))) = some r := by first | (rw [hy527]; with_reducible exact H) | (have H2_ := (Option.bind_some _ _).symm.trans H; rw [hy527]; with_reducible exact H2_) | (have H2_ := (Option.bind_some _ _).symm.trans H; with_reducible exact H2_) | with_reducible exact H | (rw [hy527]; exact H) | exact H
             have Ny527 := Aside0.mk hy527
             clear hy527
             have c35b0 := eq_true (of_decide_eq_true (by first | (with_reducible assumption) | assumption) : 0 ≤ x7_2)
             have c36b0 := eq_true (of_decide_eq_true (by first | (with_reducible assumption) | assumption) : x7_2 ≤ (x3_1.length : Int))
             obtain ⟨y530, hy530⟩ : ∃ y_ : List (S61), y_ = (x3_1.drop (x7_2 : Int).toNat) := ⟨_, rfl⟩
             replace H : (if y527.length + y530.length < 8796093022208 then (spec_l9Extents.l0 k2 (y527 ++ y530) l0 (l0.length : Int) (wrap64 (x15_1 + 1))) else (none)) = some r := by first | (rw [hy530]; with_reducible exact H) | (have H2_ := (Option.bind_some _ _).symm.trans H; rw [hy530]; with_reducible exact H2_) | (have H2_ := (Option.bind_some _ _).symm.trans H; with_reducible exact H2_) | with_reducible exact H | (rw [hy530]; exact H) | exact H
             have Ny530 := Aside0.mk hy530
             clear hy530
             by_cases c37 : y527.length + y530.length < 8796093022208
             ·
              rw [if_pos c37] at H
              have LMc37 := Aside0.mk c37
              clear c37
              obtain ⟨y534, hy534⟩ : ∃ y_ : List (S61), y_ = (y527 ++ y530) := ⟨_, rfl⟩
              replace H : (spec_l9Extents.l0 k2 y534 l0 (l0.length : Int) (wrap64 (x15_1 + 1))) = some r := by first | (rw [hy534]; with_reducible exact H) | (have H2_ := (Option.bind_some _ _).symm.trans H; rw [hy534]; with_reducible exact H2_) | (have H2_ := (Option.bind_some _ _).symm.trans H; with_reducible exact H2_) | with_reducible exact H | (rw [hy534]; exact H) | exact H
              have Ny534 := Aside0.mk hy534
              clear hy534
              have H' := Aside0.mk H
              clear H
              try go_wp2
              have n0_ := Aside0.mk (Kd.R_drew HO_3.out)
              have n1_ := Aside0.mk (blk_drew BK500.out)
              have n2_ := Aside0.mk (blk_drew BK501.out)
              have n3_ := Aside0.mk (below_drew1 HB.out)
              clear HO_3
              clear BK500
              clear BK501
              clear HB
              have HO_3 := n0_
              have BK500 := n1_
              have BK501 := n2_
              have HB := n3_
              clear n0_ n1_ n2_ n3_
              obtain ⟨Ao39, co39, eo39⟩ := Kd.R_slice HO_3.out
              (first | subst eo39 | (injection eo39 with f1_ f2_ f3_; have f4_ := f1_.symm; have f5_ := f3_.symm; clear f1_ f2_ f3_; subst f4_; subst f5_))
              refine start_ (n := 14) (S := fun w' => True) (ds := []) #[false, false, false, false, false, false, false, false, false, false, false, false, false, false] (by kernel_rfl) rfl rfl trivial (fun hHeld => ?_); refine with_tabW spec_l9Extents.tab7 spec_l9Extents.bits7 (fun HT_ HW_ => ?_)
              generalize wr.drew = w38 at HO_3 BK500 BK501 HB hHeld ⊢
              refine pureS 0 24 HT_.out ?_
              refine pureS 1 25 HT_.out ?_
              refine pureS 2 26 HT_.out ?_
              refine pureS 3 27 HT_.out ?_
              refine pureS 4 28 HT_.out ?_
              refine pureU 5 29 HT_.out ?_
              refine pureU 6 30 HT_.out ?_
              refine pureU 7 31 HT_.out ?_
              refine pureU 8 32 HT_.out ?_
              refine pureU 9 33 HT_.out ?_
              refine pureU 10 34 HT_.out ?_
              refine pureU 11 35 HT_.out ?_
              refine pureU 12 36 HT_.out ?_
              refine pureS 13 37 HT_.out ?_
              refine done_ (done_of HT_.out (by kernel_rfl)) ?_
              have q40 : (x7_2 : Int) ≤ ((x3_1.length : Int) : Int) := of_decide_eq_true (by first | (with_reducible assumption) | assumption)
              obtain ⟨i040, hi040, _, hsz40, _⟩ := info_parts info61
              have hroom40 : x3_1.length ≤ co39 := (Kd.R_reads' HO_3.out).2.1
              have hC40 : Kd.C k61 _ Ao39 x3_1.length x3_1 := (Kd.R_reads' HO_3.out).2.2
              have hcut40 := cut_to (P := Try.prog) 38 61 .i64 Try.underlying38 hi040 Ao39 x3_1.length co39 x7_2 (of_decide_eq_true (by first | (with_reducible assumption) | assumption)) q40 hroom40
              have hr40 := Kd.C_take (m := (x7_2 : Int).toNat) hC40 (by omega)
              have hy40 : y520.length = (x7_2 : Int).toNat := (by rw [Ny520.out, List.length_take]; omega)
              rw [← Ny520.out] at hr40
              rw [← hy40] at hcut40
              have HR523 := Aside0.mk hr40
              have HC523 := Aside0.mk (show y520.length ≤ co39 from by omega)
              clear hr40 hC40 hroom40 hi040 hsz40
              have KY40 := Aside0.mk hy40
              clear hy40
              have KL40 := Aside0.mk (show (x7_2 : Int).toNat ≤ x3_1.length from by omega)
              replace q40 := eq_true q40
              try go_wp2_with (first | ((with_reducible refine gate_builtin (b := .append) (xs := #[.tmp 40, .tmp 43]) rfl ?_); at_builtin; refine Kd.R_append_rows k61 (w0 := w) w.heap.size rfl (.tmp 40) (.tmp 43) 38 61 (.agg #[(.int .i64 0), (.int .i64 0)]) 16 rfl Try.underlying38 info61 rfl (by decide) (by omega) (.slice none 0 0) ([] : List (S61)) y520 _ _ _ (fun k_ => some k_ ≠ (.slice Ao39 x3_1.length co39 : Value).ownBlock ∧ k_ ≠ gb501) (fun _ => False) rfl rfl ?aO ?aR (fun _ _ h => h) (fun _ h => h.elim) ?aF ?aB ?aS ?aL ?_; (case aR => repeat (first | exact (by repeat (first | (with_reducible exact HR523.out) | (with_reducible refine Kd.C_alloc ?_ _) | (with_reducible refine Kd.C_drewN ?_ _) | (with_reducible refine Kd.C_drew ?_) | exact HR523.out)) | (with_reducible refine Kd.C_alloc ?_ _) | (with_reducible refine Kd.C_drewN ?_ _) | (with_reducible refine Kd.C_drew ?_))); (case aB => exact (bs2 HB GE500 GE501)); (case aF => exact (fun k_ hk => ⟨Kd.fresh' (Kd.R_lt (rr HO_3.out)) k_ hk, Kd.freshB (bk BK501) k_ hk⟩)); (case aO => exact ((Kd.R_nil _ _ _ _ (fun k_ => some k_ ≠ (.slice Ao39 x3_1.length co39 : Value).ownBlock ∧ k_ ≠ gb501)))); (case aS => exact (below_size (bs2 HB GE500 GE501))); (case aL => have := LMc33.out; omega); intro v525 w41 ho hb hg hat; rw [← Ny524.out] at ho; replace BK500 := Aside0.mk (blk_grown (bk BK500) hg (by simp [Value.ownBlock])); replace BK501 := Aside0.mk (blk_grown (bk BK501) hg (by simp [Value.ownBlock])); replace HB := Aside0.mk (hb); replace HR523 := Aside0.mk ((show Kd.C k61 w41 Ao39 y520.length y520 from by rw [Ny520.out]; exact Kd.C_take (m := (x7_2 : Int).toNat) ((Kd.R_reads' (Kd.R_after (Kd.R_apart_nil (rr HO_3.out)) hg hat)).2.2) KL40.out)); replace HO_3 := Aside0.mk (Kd.R_after (Kd.R_apart_nil (rr HO_3.out)) hg hat); have HO526 := Aside0.mk (ho); clear ho hb hg hat; have hnb42 := NB501_500.out; have hnc42 := NB500_501.out; obtain ⟨hcz43_0, hcz43_1⟩ := cz2 BK501; obtain ⟨hfz43_0, hfz43_1⟩ := fz2 BK501) | ((with_reducible refine gate_builtin (b := .append) (xs := #[.tmp 45, .tmp 47]) rfl ?_); at_builtin; refine Kd.R_append k61 (w0 := w) w.heap.size rfl (.tmp 45) (.tmp 47) 38 61 (.agg #[(.int .i64 0), (.int .i64 0)]) 16 rfl Try.underlying38 info61 rfl (by decide) (by omega) v525 y524 (⟨((rd_T48 l0 x15_1).f2), ((rd_T48 l0 x15_1).f1)⟩ : S61) [.int .i64 ((rd_T48 l0 x15_1).f2), .int .i64 ((rd_T48 l0 x15_1).f1)] (fun k_ => some k_ ≠ (.slice Ao39 x3_1.length co39 : Value).ownBlock ∧ k_ ≠ gb501) (fun _ => False) rfl rfl ?aP (fun _ hk => hk.elim) ?aF ?aO ?aB ?aS ?aL ?_; (case aP => exact k61_mkM _ _ _ (⟨((rd_T48 l0 x15_1).f2), ((rd_T48 l0 x15_1).f1)⟩ : S61)); (case aB => exact (bs2 HB GE500 GE501)); (case aF => exact (fun k_ hk => ⟨Kd.fresh' (Kd.R_lt (rr HO_3.out)) k_ hk, Kd.freshB (bk BK501) k_ hk⟩)); (case aO => exact (rr HO526.out)); (case aS => exact (below_size (bs2 HB GE500 GE501))); (case aL => have := LMc34.out; omega); intro v528 w44 ho hb hg hat; rw [← Ny527.out] at ho; replace BK500 := Aside0.mk (blk_grown (bk BK500) hg (Kd.R_ne HO526.out BK500.out (by decide))); replace BK501 := Aside0.mk (blk_grown (bk BK501) hg (Kd.R_away HO526.out (fun _ hk => hk.2))); replace HB := Aside0.mk (hb); replace HR523 := Aside0.mk ((show Kd.C k61 w44 Ao39 y520.length y520 from by rw [Ny520.out]; exact Kd.C_take (m := (x7_2 : Int).toNat) ((Kd.R_reads' (Kd.R_after (ok := (fun k_ => k_ ≠ gb501)) (rr HO_3.out) hg hat)).2.2) KL40.out)); replace HO_3 := Aside0.mk (Kd.R_after (ok := (fun k_ => k_ ≠ gb501)) (rr HO_3.out) hg hat); have HO529 := Aside0.mk (ho); clear HO526; clear ho hb hg hat; have q45 : (x7_2 : Int) ≤ ((x3_1.length : Int) : Int) := of_decide_eq_true (by first | (with_reducible assumption) | assumption); obtain ⟨i045, hi045, _, hsz45, _⟩ := info_parts info61; have hroom45 : x3_1.length ≤ co39 := (Kd.R_reads' HO_3.out).2.1; have hC45 : Kd.C k61 _ Ao39 x3_1.length x3_1 := (Kd.R_reads' HO_3.out).2.2; have q045 : (0 : Int) ≤ (x7_2 : Int) := of_decide_eq_true (by first | (with_reducible assumption) | assumption); have hcut45 := cut_from (P := Try.prog) 38 61 .i64 Try.underlying38 hi045 2 hsz45 Ao39 x3_1.length co39 x7_2 q045 q45; have hr45 := Kd.C_drop (m := (x7_2 : Int).toNat) (c := co39) hC45 (by omega) hroom45; obtain ⟨A45, hA45⟩ : ∃ A1, A1 = (if co39 = (x7_2 : Int).toNat then Ao39 else (Ao39 : Option Addr).map (·.add ((x7_2 : Int).toNat * 2))) := ⟨_, rfl⟩; obtain ⟨c45, hc45⟩ : ∃ c1, c1 = co39 - (x7_2 : Int).toNat := ⟨_, rfl⟩; have hy45 : y530.length = x3_1.length - (x7_2 : Int).toNat := (by rw [Ny530.out, List.length_drop] <;> omega); rw [show (x3_1).drop (x7_2 : Int).toNat = y530 from Ny530.out.symm] at hr45; replace hr45 : Kd.C k61 _ A45 y530.length y530 := (by rw [hA45]; exact hr45); rw [← hy45, ← hA45, ← hc45] at hcut45; have HR533 := Aside0.mk hr45; have HC533 := Aside0.mk (show y530.length ≤ c45 from by rw [hy45, hc45]; exact Nat.sub_le_sub_right hroom45 _); clear hr45 hC45 hroom45 hi045 hsz45 hc45; have KY45 := Aside0.mk hy45; have KA45 := Aside0.mk hA45; clear hy45 hA45; have KL45 := Aside0.mk (show (x7_2 : Int).toNat ≤ x3_1.length from by omega); replace q45 := eq_true q45) | ((with_reducible refine gate_builtin (b := .append) (xs := #[.tmp 49, .tmp 52]) rfl ?_); at_builtin; refine Kd.R_append_rows k61 (w0 := w) w.heap.size rfl (.tmp 49) (.tmp 52) 38 61 (.agg #[(.int .i64 0), (.int .i64 0)]) 16 rfl Try.underlying38 info61 rfl (by decide) (by omega) v528 y527 y530 _ _ _ (fun k_ => some k_ ≠ (.slice Ao39 x3_1.length co39 : Value).ownBlock ∧ k_ ≠ gb501) (fun _ => False) rfl rfl ?aO ?aR (fun _ _ h => h) (fun _ h => h.elim) ?aF ?aB ?aS ?aL ?_; (case aR => repeat (first | exact (by repeat (first | (with_reducible exact HR533.out) | (with_reducible refine Kd.C_alloc ?_ _) | (with_reducible refine Kd.C_drewN ?_ _) | (with_reducible refine Kd.C_drew ?_) | exact HR533.out)) | (with_reducible refine Kd.C_alloc ?_ _) | (with_reducible refine Kd.C_drewN ?_ _) | (with_reducible refine Kd.C_drew ?_))); (case aB => exact (bs2 HB GE500 GE501)); (case aF => exact (fun k_ hk => ⟨Kd.fresh' (Kd.R_lt (rr HO_3.out)) k_ hk, Kd.freshB (bk BK501) k_ hk⟩)); (case aO => exact (rr HO529.out)); (case aS => exact (below_size (bs2 HB GE500 GE501))); (case aL => have := LMc37.out; omega); intro v535 w46 ho hb hg hat; rw [← Ny534.out] at ho; replace BK500 := Aside0.mk (blk_grown (bk BK500) hg (Kd.R_ne HO529.out BK500.out (by decide))); replace BK501 := Aside0.mk (blk_grown (bk BK501) hg (Kd.R_away HO529.out (fun _ hk => hk.2))); replace HB := Aside0.mk (hb); replace HR523 := Aside0.mk ((show Kd.C k61 w46 Ao39 y520.length y520 from by rw [Ny520.out]; exact Kd.C_take (m := (x7_2 : Int).toNat) ((Kd.R_reads' (Kd.R_after (ok := (fun k_ => k_ ≠ gb501)) (rr HO_3.out) hg hat)).2.2) KL40.out)); replace HR533 := Aside0.mk ((show Kd.C k61 w46 A45 y530.length y530 from by rw [Ny530.out, KA45.out]; exact Kd.C_drop (m := (x7_2 : Int).toNat) (c := co39) ((Kd.R_reads' (Kd.R_after (ok := (fun k_ => k_ ≠ gb501)) (rr HO_3.out) hg hat)).2.2) KL45.out ((Kd.R_reads' (Kd.R_after (ok := (fun k_ => k_ ≠ gb501)) (rr HO_3.out) hg hat)).2.1))); replace HO_3 := Aside0.mk (Kd.R_after (ok := (fun k_ => k_ ≠ gb501)) (rr HO_3.out) hg hat); have HO536 := Aside0.mk (ho); clear HO529; clear ho hb hg hat))
              go_roundg k2
              case measure => have := HK1.out; have := HK2.out; omega
              case rel => exact ⟨(y534), (wrap64 (x15_1 + 1)), (by first | rfl | (simp; done) | (simp [*]; done)), H', ⟨by have := HK1.out; have := HK2.out; omega⟩, rm HO536 (fun _ hk => trivial), ⟨bs2 HB GE500 GE501⟩⟩
             ·
              rw [if_neg c37] at H
              exact absurd H (by simp)
            ·
             rw [if_neg c34] at H
             exact absurd H (by simp)
           ·
            rw [if_neg c33] at H
            exact absurd H (by simp)
          ·
           rw [if_neg c32] at H
           exact absurd H (by simp)
         ·
          rw [if_neg c31] at H
          exact absurd H (by simp)
     ·
      rw [if_neg c4] at H
      exact absurd H (by simp)
    ·
     rw [if_neg c3] at H
     exact absurd H (by simp)
   ·
    rw [if_neg c2] at H
    have c2b0 : decide (x15_1 < (l0.length : Int)) = false := decide_eq_false c2
    clear c2
    have H' := Aside0.mk H
    clear H
    obtain ⟨Ao47, co47, eo47⟩ := Kd.R_slice HO_3.out
    subst eo47
    go_wp2
    go_loopg [9, 57] k1 (fun kq v9 v57 w' => ∃ (x9_2 : List (S61)) (x55_2 : List (S61)) (x57_2 : Int), v57 = .int .i64 x57_2 ∧ Aside0 (spec_l9Extents.l2 kq x9_2 x55_2 (x3_1.length : Int) x57_2 = some r) ∧ Aside0 (kq ≤ k1) ∧ Aside0 (Kd.R k61 61 w' w.heap.size (fun k_ => some k_ ≠ ((.slice Ao47 x3_1.length co47) : Value).ownBlock) v9 x9_2) ∧ Aside0 (Kd.R k61 61 w' w.heap.size (fun k_ => some k_ ≠ (v9 : Value).ownBlock) (.slice Ao47 x3_1.length co47) x55_2) ∧ Aside0 (Below w.heap.size w w'))
    case atStart => exact ⟨(([] : List (S61))), (x3_1), (0), (by first | rfl | (simp; done) | (simp [*]; done)), H', ⟨Nat.le_refl _⟩, ⟨by first | exact Kd.R_nil _ _ _ _ _ | exact Kd.N_nil _ _ _ _ _ | exact Kd.V_nil _ _ _ _ _ | exact Kd.Q_nil _ _ _ _ _ | exact Kd.S_nil _ _ _ _ _⟩, ⟨by (with_reducible repeat (first | apply Kd.R_alloc | apply Kd.R_drewN | apply Kd.R_drew)); exact Kd.R_mono HO_3.out (fun _ hk => (by simp [Value.ownBlock]))⟩, ⟨bs HB⟩⟩
    case round =>
     clear H'
     try clear c1
     try clear c2
     try clear c2b0
     try clear p2
     try clear q2
     try clear c3
     try clear c3b0
     try clear c4
     try clear c4b0
     try clear p4
     try clear q4
     try clear hx4
     try clear p5
     try clear q5
     try clear hx5
     try clear c6
     try clear p6
     try clear c8
     try clear c10
     try clear c10b0
     try clear c11
     try clear c11b0
     try clear c12
     try clear c12b0
     try clear c15
     try clear c15b0
     try clear c16
     try clear c16b0
     try clear c16b1
     try clear c17
     try clear c18
     try clear c19
     try clear c19b0
     try clear c20
     try clear c20b0
     try clear c21
     try clear q24
     try clear c26
     try clear c29
     try clear q29
     try clear c31
     try clear c31b0
     try clear c31b1
     try clear c32
     try clear c32b0
     try clear c32b1
     try clear c33
     try clear c34
     try clear c35
     try clear c35b0
     try clear c36
     try clear c36b0
     try clear c37
     try clear q40
     try clear c42
     try clear c45
     try clear q45
     try clear hcz27_0 hcz27_1
     try clear hcz43_0 hcz43_1
     try clear hcz6_0 hcz6_1 hcz6_2 hcz6_3
     try clear hcz9_0 hcz9_1
     try clear hfz27_0 hfz27_1
     try clear hfz43_0 hfz43_1
     try clear hfz6_0 hfz6_1 hfz6_2 hfz6_3
     try clear hfz9_0 hfz9_1
     try clear hx499_0
     try clear hx499_1
     try clear hx499_2
     try clear hx499_3
     try clear hx502_0
     try clear hx502_1
     try clear p2
     try clear p4
     try clear p499
     try clear p502
     try clear q029
     try clear q045
     try clear q24
     try clear q29
     try clear q4
     try clear q40
     try clear q45
     try clear q499
     try clear q502
     obtain ⟨x9_2, x55_2, x57_2, rfl, HA, HK2, HO_9, HO_55, HB⟩ := hrel
     have hl55_2 := (Kd.R_reads' HO_55.out).1
     rw [hl55_2] at HO_55
     (try simp only [hl55_2])
     (try simp only [hl55_2] at HO_9)
     cases gk with
     | zero => exact absurd HA.out (by simp [spec_l9Extents.l2])
     | succ k2 =>
      have H := HA.out
      clear HA
      simp only [spec_l9Extents.l2] at H
      by_cases c48 : x57_2 < (x3_1.length : Int)
      ·
       rw [if_pos c48] at H
       have c48b0 : decide (x57_2 < (x3_1.length : Int)) = true := decide_eq_true c48
       (try (have c48b0h := c48b0; simp only [hl55_2] at c48b0h))
       clear c48
       by_cases c49 : 0 ≤ x57_2
       ·
        rw [if_pos c49] at H
        have c49b0 : decide (0 ≤ x57_2) = true := decide_eq_true c49
        clear c49
        by_cases c50 : x57_2 < (x55_2.length : Int)
        ·
         rw [if_pos c50] at H
         have c50b0 : decide (x57_2 < (x55_2.length : Int)) = true := decide_eq_true c50
         (try (have c50b0h := c50b0; simp only [hl55_2] at c50b0h))
         clear c50
         by_cases c51 : (wrap64 ((x9_2.length : Int) - 1)) ≥ 0
         ·
          rw [if_pos c51] at H
          have c51b0 : decide (0 ≤ (wrap64 ((x9_2.length : Int) - 1))) = true := decide_eq_true c51
          (try (have c51b0h := c51b0; simp only [hl55_2] at c51b0h))
          clear c51
          obtain ⟨ji52, hji52⟩ : ∃ j_ : Int, (wrap64 ((x9_2.length : Int) - 1)) = j_ := ⟨_, rfl⟩
          replace H : (if 0 ≤ (ji52) then (if (ji52) < (x9_2.length : Int) then (if (wrap64 (((rd_T61 x9_2 (ji52)).f0) + ((rd_T61 x9_2 (ji52)).f1))) = ((rd_T61 x55_2 x57_2).f0) then (spec_l9Extents.l2 k2 (x9_2.set ((ji52) : Int).toNat (⟨(rd_T61 x9_2 (ji52)).f0, wrap64 (((rd_T61 x9_2 (ji52)).f1) + ((rd_T61 x55_2 x57_2).f1))⟩ : S61)) x55_2 (x3_1.length : Int) (wrap64 (x57_2 + 1))) else (if x9_2.length < 8796093022208 then (spec_l9Extents.l2 k2 (x9_2 ++ [(⟨(rd_T61 x55_2 x57_2).f0, (rd_T61 x55_2 x57_2).f1⟩ : S61)]) x55_2 (x3_1.length : Int) (wrap64 (x57_2 + 1))) else (none))) else (none)) else (none)) = some r := by first | (rw [hji52] at H; exact H) | (simp only [hji52] at H ⊢; exact H)
          (try rw [hji52] at c51b0)
          have hji52w : (IntKind.i64.wrap ((x9_2.length : Int) - 1)) = ji52 := (i64_w _).trans hji52
          by_cases c53 : 0 ≤ (ji52)
          ·
           rw [if_pos c53] at H
           have c53b0 : decide (0 ≤ (ji52)) = true := decide_eq_true c53
           clear c53
           by_cases c54 : (ji52) < (x9_2.length : Int)
           ·
            rw [if_pos c54] at H
            have c54b0 : decide ((ji52) < (x9_2.length : Int)) = true := decide_eq_true c54
            (try (have c54b0h := c54b0; simp only [hl55_2] at c54b0h))
            clear c54
            by_cases c55 : (wrap64 (((rd_T61 x9_2 (ji52)).f0) + ((rd_T61 x9_2 (ji52)).f1))) = ((rd_T61 x55_2 x57_2).f0)
            ·
             rw [if_pos c55] at H
             have c55b0 : ((wrap64 (((rd_T61 x9_2 (ji52)).f0) + ((rd_T61 x9_2 (ji52)).f1))) == ((rd_T61 x55_2 x57_2).f0)) = true := beq_iff_eq.mpr c55
             have c55b1 : ((wrap64 (((rd_T61 x9_2 (ji52)).f0) + ((rd_T61 x9_2 (ji52)).f1))) != ((rd_T61 x55_2 x57_2).f0)) = false := bne_eq_false_iff_eq.mpr c55
             clear c55
             obtain ⟨y542, hy542⟩ : ∃ y_ : List (S61), y_ = (x9_2.set ((ji52) : Int).toNat (⟨(rd_T61 x9_2 (ji52)).f0, wrap64 (((rd_T61 x9_2 (ji52)).f1) + ((rd_T61 x55_2 x57_2).f1))⟩ : S61)) := ⟨_, rfl⟩
             replace H : (spec_l9Extents.l2 k2 y542 x55_2 (x3_1.length : Int) (wrap64 (x57_2 + 1))) = some r := by first | (rw [hy542]; with_reducible exact H) | (have H2_ := (Option.bind_some _ _).symm.trans H; rw [hy542]; with_reducible exact H2_) | (have H2_ := (Option.bind_some _ _).symm.trans H; with_reducible exact H2_) | with_reducible exact H | (rw [hy542]; exact H) | exact H
             have Ny542 := Aside0.mk hy542
             clear hy542
             have H' := Aside0.mk H
             clear H
             have p537 : 0 ≤ (x57_2 : Int) := of_decide_eq_true (by first | (with_reducible assumption) | assumption)
             have q537 : x57_2 < (x55_2.length : Int) := of_decide_eq_true (by first | (with_reducible assumption) | assumption)
             obtain ⟨ad537, e537, hx537_0, hx537_1⟩ := at_T61 (Kd.R_reads' HO_55.out).2.2 x57_2 p537 q537
             cases e537
             replace p537 := eq_true p537
             replace q537 := eq_true q537
             try go_wp2_with (first | ((with_reducible refine gate_dst (N := 11) rfl ?_); refine box_event ?hg (N := 11) ?hd (cs := #[.int .i64 0, .int .i64 0]) (t := 61) ?hr ?_; (case hd => rfl); (case hg => rfl); (case hr => first | (go_simp; done) | (go_simp; rfl)); intro gb538 hg w57 hbox hb; replace HO_9 := Aside0.mk (Kd.R_below (Kd.R_elderB (rr HO_9.out) gb538 (Nat.le_of_eq hg.symm)) hb); replace HO_55 := Aside0.mk (Kd.R_below (Kd.R_elderB (rr HO_55.out) gb538 (Nat.le_of_eq hg.symm)) hb); have BK538 := Aside0.mk (hbox); have GW538 := Aside0.mk ((by rw [hg]; exact (below_size (bs HB)) : w.heap.size ≤ gb538)); have GE538 := Aside0.mk ((by rw [hg]; exact (below_size (bs HB)) : w.heap.size ≤ gb538)); replace HB := Aside0.mk (below_step (bs HB) hb); clear hb hbox hg; obtain ⟨hcz58_0, hcz58_1⟩ := cz2 BK538; obtain ⟨hfz58_0, hfz58_1⟩ := fz2 BK538; obtain ⟨Ao59, co59, eo59⟩ := Kd.R_slice HO_9.out; subst eo59))
             have n0_ : Aside0 (Kd.R k61 61 ((w57.setCell ⟨gb538, 0, none⟩ (.int .i64 ((rd_T61 x55_2 x57_2).f0))).setCell ⟨gb538, 1, none⟩ (.int .i64 ((rd_T61 x55_2 x57_2).f1))) w.heap.size (fun k_ => some k_ ≠ (.slice (some ad537) x55_2.length co47 : Value).ownBlock ∧ k_ ≠ gb538) (.slice Ao59 x9_2.length co59) x9_2) := ⟨by (with_reducible repeat (first | apply Kd.R_alloc | apply Kd.R_drewN | apply Kd.R_drew)); exact Kd.R_mono (Kd.R_far (p := ⟨gb538, 1, none⟩) (Kd.R_far (p := ⟨gb538, 0, none⟩) (Kd.R_mono HO_9.out (fun k_ hk => (⟨hk, hk.2⟩ : _ ∧ k_ ≠ gb538))) (fun _ hk => hk.2) (.int .i64 ((rd_T61 x55_2 x57_2).f0))) (fun _ hk => hk.2) (.int .i64 ((rd_T61 x55_2 x57_2).f1))) (fun _ hk => ⟨hk.1.1, hk.1.2⟩)⟩
             have n1_ : Aside0 (Kd.R k61 61 ((w57.setCell ⟨gb538, 0, none⟩ (.int .i64 ((rd_T61 x55_2 x57_2).f0))).setCell ⟨gb538, 1, none⟩ (.int .i64 ((rd_T61 x55_2 x57_2).f1))) w.heap.size (fun k_ => some k_ ≠ (.slice Ao59 x9_2.length co59 : Value).ownBlock ∧ k_ ≠ gb538) (.slice (some ad537) x55_2.length co47) x55_2) := ⟨by (with_reducible repeat (first | apply Kd.R_alloc | apply Kd.R_drewN | apply Kd.R_drew)); exact Kd.R_mono (Kd.R_far (p := ⟨gb538, 1, none⟩) (Kd.R_far (p := ⟨gb538, 0, none⟩) (Kd.R_mono HO_55.out (fun k_ hk => (⟨hk, hk.2⟩ : _ ∧ k_ ≠ gb538))) (fun _ hk => hk.2) (.int .i64 ((rd_T61 x55_2 x57_2).f0))) (fun _ hk => hk.2) (.int .i64 ((rd_T61 x55_2 x57_2).f1))) (fun _ hk => ⟨hk.1.1, hk.1.2⟩)⟩
             have n2_ : Aside0 (((w57.setCell ⟨gb538, 0, none⟩ (.int .i64 ((rd_T61 x55_2 x57_2).f0))).setCell ⟨gb538, 1, none⟩ (.int .i64 ((rd_T61 x55_2 x57_2).f1))).heap[gb538]? = some (.cells #[.int .i64 ((rd_T61 x55_2 x57_2).f0), .int .i64 ((rd_T61 x55_2 x57_2).f1)] 61 (0, 0))) := ⟨by (with_reducible repeat (first | refine blk_drewN ?_ _ | refine blk_drew ?_ | refine blk_alloc ?_ _)); refine blk_put (cs := #[.int .i64 ((rd_T61 x55_2 x57_2).f0), .int .i64 0]) ?_ 1 _ rfl; (with_reducible repeat (first | refine blk_drewN ?_ _ | refine blk_drew ?_ | refine blk_alloc ?_ _)); refine blk_put (cs := #[.int .i64 0, .int .i64 0]) ?_ 0 _ rfl; (with_reducible repeat (first | refine blk_drewN ?_ _ | refine blk_drew ?_ | refine blk_alloc ?_ _)); exact BK538.out⟩
             have n3_ : Aside0 (Below w.heap.size w ((w57.setCell ⟨gb538, 0, none⟩ (.int .i64 ((rd_T61 x55_2 x57_2).f0))).setCell ⟨gb538, 1, none⟩ (.int .i64 ((rd_T61 x55_2 x57_2).f1)))) := ⟨bs1 HB GE538⟩
             (try clear HO_9)
             (try clear HO_55)
             (try clear BK538)
             (try clear HB)
             generalize ((w57.setCell ⟨gb538, 0, none⟩ (.int .i64 ((rd_T61 x55_2 x57_2).f0))).setCell ⟨gb538, 1, none⟩ (.int .i64 ((rd_T61 x55_2 x57_2).f1))) = w60 at n0_ n1_ n2_ n3_ ⊢
             have HO_9 := n0_
             have HO_55 := n1_
             have BK538 := n2_
             have HB := n3_
             clear n0_ n1_ n2_ n3_
             have n0_ := Aside0.mk (Kd.R_drew HO_9.out)
             have n1_ := Aside0.mk (Kd.R_drew HO_55.out)
             have n2_ := Aside0.mk (blk_drew BK538.out)
             have n3_ := Aside0.mk (below_drew1 HB.out)
             clear HO_9
             clear HO_55
             clear BK538
             clear HB
             have HO_9 := n0_
             have HO_55 := n1_
             have BK538 := n2_
             have HB := n3_
             clear n0_ n1_ n2_ n3_
             have p539 : 0 ≤ ((ji52) : Int) := of_decide_eq_true (by first | (with_reducible assumption) | assumption)
             have q539 : (ji52) < (x9_2.length : Int) := of_decide_eq_true (by first | (with_reducible assumption) | assumption)
             obtain ⟨ad539, e539, hx539_0, hx539_1⟩ := at_T61 (Kd.R_reads' HO_9.out).2.2 (ji52) p539 q539
             cases e539
             replace p539 := eq_true p539
             replace q539 := eq_true q539
             have p540 : 0 ≤ ((ji52) : Int) := of_decide_eq_true (by first | (with_reducible assumption) | assumption)
             have q540 : (ji52) < (x9_2.length : Int) := of_decide_eq_true (by first | (with_reducible assumption) | assumption)
             obtain ⟨ad540, e540, hx540_0, hx540_1⟩ := at_T61 (Kd.R_reads' HO_9.out).2.2 (ji52) p540 q540
             obtain rfl : ad539 = ad540 := (by injection e540)
             replace p540 := eq_true p540
             replace q540 := eq_true q540
             refine start_ (n := 18) (S := fun w' => w'.cell? ⟨gb538, 0, none⟩ = some (.int .i64 ((rd_T61 x55_2 x57_2).f0)) ∧ w'.cell? ⟨gb538, 1, none⟩ = some (.int .i64 ((rd_T61 x55_2 x57_2).f1)) ∧ w'.cell? (ad539.add (((ji52)).toNat * 2)) = some (.int .i64 ((rd_T61 x9_2 (ji52)).f0)) ∧ w'.cell? ⟨(ad539.add (((ji52)).toNat * 2)).block, (ad539.add (((ji52)).toNat * 2)).off + 1, none⟩ = some (.int .i64 ((rd_T61 x9_2 (ji52)).f1)) ∧ w'.cell? (ad539.add (((ji52)).toNat * 2)) = some (.int .i64 ((rd_T61 x9_2 (ji52)).f0)) ∧ w'.cell? ⟨(ad539.add (((ji52)).toNat * 2)).block, (ad539.add (((ji52)).toNat * 2)).off + 1, none⟩ = some (.int .i64 ((rd_T61 x9_2 (ji52)).f1))) (ds := []) #[false, false, false, false, false, false, false, false, false, false, false, false, false, false, false, false, false, false] (by kernel_rfl) rfl rfl ⟨(blk_cell BK538.out 0).trans rfl, (blk_cell BK538.out 1).trans rfl, hx539_0, hx539_1, hx540_0, hx540_1⟩ (fun hHeld => ?_); refine with_tabW spec_l9Extents.tab19 spec_l9Extents.bits19 (fun HT_ HW_ => ?_)
             generalize w60.drew = w61 at HO_9 HO_55 BK538 HB hx539_0 hx539_1 hx540_0 hx540_1 hHeld ⊢
             refine pureS 0 64 HT_.out ?_
             refine pureS 1 65 HT_.out ?_
             refine pureS 2 66 HT_.out ?_
             refine pureS 3 67 HT_.out ?_
             refine pureS 4 68 HT_.out ?_
             refine pureS 5 69 HT_.out ?_
             refine pureS 6 70 HT_.out ?_
             refine pureS 8 72 HT_.out ?_
             refine pureS 9 73 HT_.out ?_
             refine pureS 10 74 HT_.out ?_
             refine pureS 11 75 HT_.out ?_
             refine pureS 14 78 HT_.out ?_
             refine takeS 7 71 HT_.out HW_.out hHeld (hr := by rintro w' ⟨s0, s1, s2, s3, s4, s5⟩; go_simp; with_reducible rfl) (h := ?_)
             refine takeS 12 76 HT_.out HW_.out hHeld (hr := by rintro w' ⟨s0, s1, s2, s3, s4, s5⟩; go_simp; with_reducible rfl) (h := ?_)
             refine pureS 13 77 HT_.out ?_
             refine takeS 15 79 HT_.out HW_.out hHeld (hr := by rintro w' ⟨s0, s1, s2, s3, s4, s5⟩; go_simp; with_reducible rfl) (h := ?_)
             refine pureS 16 80 HT_.out ?_
             refine pureS 17 81 HT_.out ?_
             refine done_ (done_of HT_.out (by kernel_rfl)) ?_
             try go_wp2
             have n0_ := Aside0.mk (Kd.R_drew HO_9.out)
             have n1_ := Aside0.mk (Kd.R_drew HO_55.out)
             have n2_ := Aside0.mk (blk_drew BK538.out)
             have n3_ := Aside0.mk (below_drew1 HB.out)
             clear HO_9
             clear HO_55
             clear BK538
             clear HB
             have HO_9 := n0_
             have HO_55 := n1_
             have BK538 := n2_
             have HB := n3_
             clear n0_ n1_ n2_ n3_
             have p541 : 0 ≤ ((ji52) : Int) := of_decide_eq_true (by first | (with_reducible assumption) | assumption)
             have q541 : (ji52) < (x9_2.length : Int) := of_decide_eq_true (by first | (with_reducible assumption) | assumption)
             obtain ⟨ad541, e541, hx541_0, hx541_1⟩ := at_T61 (Kd.R_reads' HO_9.out).2.2 (ji52) p541 q541
             obtain rfl : ad539 = ad541 := (by injection e541)
             replace p541 := eq_true p541
             replace q541 := eq_true q541
             have p56 : 0 ≤ ((ji52) : Int) := of_decide_eq_true (by first | (with_reducible assumption) | assumption)
             have q56 : ((ji52) : Int) < ((x9_2.length : Int) : Int) := of_decide_eq_true (by first | (with_reducible assumption) | assumption)
             obtain ⟨go56, co56, eo56, gb56, gl56, cl56, HG56⟩ := Kd.R_form HO_9.out (by omega)
             (first | cases eo56 | (injection eo56 with ea_ en_ ec_; (first | subst ea_ | (injection ea_ with ea_; subst ea_)); subst ec_; clear en_))
             have GB56 := Aside0.mk gb56
             have GG56 := Aside0.mk HG56
             clear gb56 gl56 HG56
             (first | simp only [add_plain] at hx539_0 | skip)
             (first | simp only [add_plain] at hx539_1 | skip)
             (first | simp only [add_plain] at hx540_0 | skip)
             (first | simp only [add_plain] at hx540_1 | skip)
             (first | simp only [add_plain] at hx541_0 | skip)
             (first | simp only [add_plain] at hx541_1 | skip)
             obtain ⟨ce56, hcl56, hM56, hcc56, hfr56⟩ := Kd.R_elem HO_9.out z61 ((ji52) : Int) p56 q56
             obtain rfl := k61_openM hM56
             have hx56_0 : World.cell? _ ⟨go56, ((ji52) : Int).toNat * 2, none⟩ = some (.int .i64 ((rd_T61 x9_2 (ji52)).f0)) := hcc56 0 _ rfl
             have hx56_1 : World.cell? _ ⟨go56, ((ji52) : Int).toNat * 2 + 1, none⟩ = some (.int .i64 ((rd_T61 x9_2 (ji52)).f1)) := hcc56 1 _ rfl
             have hf56_0 : World.frozen? _ ⟨go56, ((ji52) : Int).toNat * 2, none⟩ = false := hfr56 0
             have hf56_1 : World.frozen? _ ⟨go56, ((ji52) : Int).toNat * 2 + 1, none⟩ = false := hfr56 1
             clear hcl56 hcc56 hfr56 hM56
             replace p56 := eq_true p56
             replace q56 := eq_true q56
             obtain ⟨ce63, hcl63, hM63, hcc63, hfr63⟩ := Kd.R_elem HO_9.out z61 ((ji52) : Int) (of_decide_eq_true (by first | (with_reducible assumption) | assumption)) (by have h_ : ((ji52) : Int) < ((x9_2.length : Int) : Int) := of_decide_eq_true (by first | (with_reducible assumption) | assumption); first | exact h_ | (have e_ := (Kd.R_reads' HO_9.out).1; omega) | simpa using h_)
             obtain rfl := k61_openM hM63
             have HP63 := (Kd.R_seg HO_9.out ((ji52) : Int) (of_decide_eq_true (by first | (with_reducible assumption) | assumption)) (by have h_ : ((ji52) : Int) < ((x9_2.length : Int) : Int) := of_decide_eq_true (by first | (with_reducible assumption) | assumption); first | exact h_ | (have e_ := (Kd.R_reads' HO_9.out).1; omega) | simpa using h_) (seg := [.int .i64 (wrap64 (((rd_T61 x9_2 (ji52)).f1) + ((rd_T61 x55_2 x57_2).f1)))]) (j := 1) hcl63 hcc63 (show 2 ≤ 2 from by decide) (x' := (⟨(rd_T61 x9_2 (ji52)).f0, wrap64 (((rd_T61 x9_2 (ji52)).f1) + ((rd_T61 x55_2 x57_2).f1))⟩ : S61)) (k61_mkM _ _ _ (⟨(rd_T61 x9_2 (ji52)).f0, wrap64 (((rd_T61 x9_2 (ji52)).f1) + ((rd_T61 x55_2 x57_2).f1))⟩ : S61) ) (fun _ hk => hk)).1
             rw [← Ny542.out] at HP63
             have HQ63 := Aside0.mk HP63
             clear hcl63 hcc63 hfr63 hM63 HP63
             refine start_ (n := 11) (S := fun w' => w'.cell? ⟨gb538, 0, none⟩ = some (.int .i64 ((rd_T61 x55_2 x57_2).f0)) ∧ w'.cell? ⟨gb538, 1, none⟩ = some (.int .i64 ((rd_T61 x55_2 x57_2).f1)) ∧ w'.cell? ⟨go56, (((ji52)).toNat * 2), none⟩ = some (.int .i64 ((rd_T61 x9_2 (ji52)).f0)) ∧ w'.cell? ⟨go56, (((ji52)).toNat * 2) + 1, none⟩ = some (.int .i64 ((rd_T61 x9_2 (ji52)).f1))) (ds := [10]) #[false, false, false, false, false, false, false, false, false, false, false] (by kernel_rfl) rfl rfl ⟨(blk_cell BK538.out 0).trans rfl, (blk_cell BK538.out 1).trans rfl, hx541_0, hx541_1⟩ (fun hHeld => ?_); refine with_tabW spec_l9Extents.tab20 spec_l9Extents.bits20 (fun HT_ HW_ => ?_)
             generalize w61.drew = w62 at HO_9 HO_55 BK538 HB GG56 HQ63 hf56_0 hf56_1 hx539_0 hx539_1 hx540_0 hx540_1 hx541_0 hx541_1 hx56_0 hx56_1 hHeld ⊢
             refine pureS 0 82 HT_.out ?_
             refine pureS 1 83 HT_.out ?_
             refine pureS 2 84 HT_.out ?_
             refine pureS 3 85 HT_.out ?_
             refine pureS 5 87 HT_.out ?_
             refine takeS 4 86 HT_.out HW_.out hHeld (hr := by rintro w' ⟨s0, s1, s2, s3⟩; go_simp; with_reducible rfl) (h := ?_)
             refine takeS 6 88 HT_.out HW_.out hHeld (hr := by rintro w' ⟨s0, s1, s2, s3⟩; go_simp; with_reducible rfl) (h := ?_)
             refine pureS 7 89 HT_.out ?_
             refine pureS 8 90 HT_.out ?_
             refine pureS 9 91 HT_.out ?_
             refine last_ (i := 10) (N := none) #[true, true, true, true, true, true, true, true, true, true, true] rfl rfl (one_of HT_.out (by kernel_rfl)) (by decide) (fun K hK => ?_)
             refine skip_ (w1 := ?_) (by rfl) rfl ?_ ?_
             rotate_left
             ·
              go_simp
              rfl
             refine hK.out _ _ ?_
             clear hK K
             refine done_ (done_of HT_.out (by kernel_rfl)) ?_
             try go_wp2
             (try simp only [← hl55_2])
             go_roundg k2
             case measure => have := HK1.out; have := HK2.out; omega
             case rel => exact ⟨(y542), (x55_2), (wrap64 (x57_2 + 1)), (by first | rfl | (simp; done) | (simp [*]; done)), H', ⟨by have := HK1.out; have := HK2.out; omega⟩, ⟨by (try simp only [hl55_2]); (with_reducible repeat (first | apply Kd.R_alloc | apply Kd.R_drewN | apply Kd.R_drew)); exact Kd.R_mono HQ63.out (fun _ hk => hk.1)⟩, ⟨by (try simp only [hl55_2]); (with_reducible repeat (first | apply Kd.R_alloc | apply Kd.R_drewN | apply Kd.R_drew)); exact Kd.R_mono (Kd.R_far (p := ⟨go56, ((ji52) : Int).toNat * 2 + 1, none⟩) (Kd.R_mono HO_55.out (fun k_ hk => (⟨hk, fun e_ => hk.1 (by rw [e_]; rfl)⟩ : _ ∧ k_ ≠ go56))) (fun _ hk => hk.2) (.int .i64 (wrap64 (((rd_T61 x9_2 (ji52)).f1) + ((rd_T61 x55_2 x57_2).f1))))) (fun _ hk => hk.1.1)⟩, ⟨by repeat (first | (with_reducible first | exact HB.out | apply below_alloc | apply pw_below_drewN | apply below_drew1 | refine below_set ?_ GB56.out | refine below_set ?_ GE538.out) | exact HB.out)⟩⟩
            ·
             rw [if_neg c55] at H
             have c55b0 : ((wrap64 (((rd_T61 x9_2 (ji52)).f0) + ((rd_T61 x9_2 (ji52)).f1))) == ((rd_T61 x55_2 x57_2).f0)) = false := beq_eq_false_iff_ne.mpr c55
             have c55b1 : ((wrap64 (((rd_T61 x9_2 (ji52)).f0) + ((rd_T61 x9_2 (ji52)).f1))) != ((rd_T61 x55_2 x57_2).f0)) = true := bne_iff_ne.mpr c55
             by_cases c64 : x9_2.length < 8796093022208
             ·
              rw [if_pos c64] at H
              have LMc64 := Aside0.mk c64
              clear c64
              obtain ⟨y543, hy543⟩ : ∃ y_ : List (S61), y_ = (x9_2 ++ [(⟨(rd_T61 x55_2 x57_2).f0, (rd_T61 x55_2 x57_2).f1⟩ : S61)]) := ⟨_, rfl⟩
              replace H : (spec_l9Extents.l2 k2 y543 x55_2 (x3_1.length : Int) (wrap64 (x57_2 + 1))) = some r := by first | (rw [hy543]; with_reducible exact H) | (have H2_ := (Option.bind_some _ _).symm.trans H; rw [hy543]; with_reducible exact H2_) | (have H2_ := (Option.bind_some _ _).symm.trans H; with_reducible exact H2_) | with_reducible exact H | (rw [hy543]; exact H) | exact H
              have Ny543 := Aside0.mk hy543
              clear hy543
              have H' := Aside0.mk H
              clear H
              have p537 : 0 ≤ (x57_2 : Int) := of_decide_eq_true (by first | (with_reducible assumption) | assumption)
              have q537 : x57_2 < (x55_2.length : Int) := of_decide_eq_true (by first | (with_reducible assumption) | assumption)
              obtain ⟨ad537, e537, hx537_0, hx537_1⟩ := at_T61 (Kd.R_reads' HO_55.out).2.2 x57_2 p537 q537
              cases e537
              replace p537 := eq_true p537
              replace q537 := eq_true q537
              try go_wp2_with (first | ((with_reducible refine gate_dst (N := 11) rfl ?_); refine box_event ?hg (N := 11) ?hd (cs := #[.int .i64 0, .int .i64 0]) (t := 61) ?hr ?_; (case hd => rfl); (case hg => rfl); (case hr => first | (go_simp; done) | (go_simp; rfl)); intro gb538 hg w65 hbox hb; replace HO_9 := Aside0.mk (Kd.R_below (Kd.R_elderB (rr HO_9.out) gb538 (Nat.le_of_eq hg.symm)) hb); replace HO_55 := Aside0.mk (Kd.R_below (Kd.R_elderB (rr HO_55.out) gb538 (Nat.le_of_eq hg.symm)) hb); have BK538 := Aside0.mk (hbox); have GW538 := Aside0.mk ((by rw [hg]; exact (below_size (bs HB)) : w.heap.size ≤ gb538)); have GE538 := Aside0.mk ((by rw [hg]; exact (below_size (bs HB)) : w.heap.size ≤ gb538)); replace HB := Aside0.mk (below_step (bs HB) hb); clear hb hbox hg; obtain ⟨hcz66_0, hcz66_1⟩ := cz2 BK538; obtain ⟨hfz66_0, hfz66_1⟩ := fz2 BK538; obtain ⟨Ao67, co67, eo67⟩ := Kd.R_slice HO_9.out; subst eo67))
              have n0_ : Aside0 (Kd.R k61 61 ((w65.setCell ⟨gb538, 0, none⟩ (.int .i64 ((rd_T61 x55_2 x57_2).f0))).setCell ⟨gb538, 1, none⟩ (.int .i64 ((rd_T61 x55_2 x57_2).f1))) w.heap.size (fun k_ => some k_ ≠ (.slice (some ad537) x55_2.length co47 : Value).ownBlock ∧ k_ ≠ gb538) (.slice Ao67 x9_2.length co67) x9_2) := ⟨by (with_reducible repeat (first | apply Kd.R_alloc | apply Kd.R_drewN | apply Kd.R_drew)); exact Kd.R_mono (Kd.R_far (p := ⟨gb538, 1, none⟩) (Kd.R_far (p := ⟨gb538, 0, none⟩) (Kd.R_mono HO_9.out (fun k_ hk => (⟨hk, hk.2⟩ : _ ∧ k_ ≠ gb538))) (fun _ hk => hk.2) (.int .i64 ((rd_T61 x55_2 x57_2).f0))) (fun _ hk => hk.2) (.int .i64 ((rd_T61 x55_2 x57_2).f1))) (fun _ hk => ⟨hk.1.1, hk.1.2⟩)⟩
              have n1_ : Aside0 (Kd.R k61 61 ((w65.setCell ⟨gb538, 0, none⟩ (.int .i64 ((rd_T61 x55_2 x57_2).f0))).setCell ⟨gb538, 1, none⟩ (.int .i64 ((rd_T61 x55_2 x57_2).f1))) w.heap.size (fun k_ => some k_ ≠ (.slice Ao67 x9_2.length co67 : Value).ownBlock ∧ k_ ≠ gb538) (.slice (some ad537) x55_2.length co47) x55_2) := ⟨by (with_reducible repeat (first | apply Kd.R_alloc | apply Kd.R_drewN | apply Kd.R_drew)); exact Kd.R_mono (Kd.R_far (p := ⟨gb538, 1, none⟩) (Kd.R_far (p := ⟨gb538, 0, none⟩) (Kd.R_mono HO_55.out (fun k_ hk => (⟨hk, hk.2⟩ : _ ∧ k_ ≠ gb538))) (fun _ hk => hk.2) (.int .i64 ((rd_T61 x55_2 x57_2).f0))) (fun _ hk => hk.2) (.int .i64 ((rd_T61 x55_2 x57_2).f1))) (fun _ hk => ⟨hk.1.1, hk.1.2⟩)⟩
              have n2_ : Aside0 (((w65.setCell ⟨gb538, 0, none⟩ (.int .i64 ((rd_T61 x55_2 x57_2).f0))).setCell ⟨gb538, 1, none⟩ (.int .i64 ((rd_T61 x55_2 x57_2).f1))).heap[gb538]? = some (.cells #[.int .i64 ((rd_T61 x55_2 x57_2).f0), .int .i64 ((rd_T61 x55_2 x57_2).f1)] 61 (0, 0))) := ⟨by (with_reducible repeat (first | refine blk_drewN ?_ _ | refine blk_drew ?_ | refine blk_alloc ?_ _)); refine blk_put (cs := #[.int .i64 ((rd_T61 x55_2 x57_2).f0), .int .i64 0]) ?_ 1 _ rfl; (with_reducible repeat (first | refine blk_drewN ?_ _ | refine blk_drew ?_ | refine blk_alloc ?_ _)); refine blk_put (cs := #[.int .i64 0, .int .i64 0]) ?_ 0 _ rfl; (with_reducible repeat (first | refine blk_drewN ?_ _ | refine blk_drew ?_ | refine blk_alloc ?_ _)); exact BK538.out⟩
              have n3_ : Aside0 (Below w.heap.size w ((w65.setCell ⟨gb538, 0, none⟩ (.int .i64 ((rd_T61 x55_2 x57_2).f0))).setCell ⟨gb538, 1, none⟩ (.int .i64 ((rd_T61 x55_2 x57_2).f1)))) := ⟨bs1 HB GE538⟩
              (try clear HO_9)
              (try clear HO_55)
              (try clear BK538)
              (try clear HB)
              generalize ((w65.setCell ⟨gb538, 0, none⟩ (.int .i64 ((rd_T61 x55_2 x57_2).f0))).setCell ⟨gb538, 1, none⟩ (.int .i64 ((rd_T61 x55_2 x57_2).f1))) = w68 at n0_ n1_ n2_ n3_ ⊢
              have HO_9 := n0_
              have HO_55 := n1_
              have BK538 := n2_
              have HB := n3_
              clear n0_ n1_ n2_ n3_
              have n0_ := Aside0.mk (Kd.R_drew HO_9.out)
              have n1_ := Aside0.mk (Kd.R_drew HO_55.out)
              have n2_ := Aside0.mk (blk_drew BK538.out)
              have n3_ := Aside0.mk (below_drew1 HB.out)
              clear HO_9
              clear HO_55
              clear BK538
              clear HB
              have HO_9 := n0_
              have HO_55 := n1_
              have BK538 := n2_
              have HB := n3_
              clear n0_ n1_ n2_ n3_
              have p539 : 0 ≤ ((ji52) : Int) := of_decide_eq_true (by first | (with_reducible assumption) | assumption)
              have q539 : (ji52) < (x9_2.length : Int) := of_decide_eq_true (by first | (with_reducible assumption) | assumption)
              obtain ⟨ad539, e539, hx539_0, hx539_1⟩ := at_T61 (Kd.R_reads' HO_9.out).2.2 (ji52) p539 q539
              cases e539
              replace p539 := eq_true p539
              replace q539 := eq_true q539
              have p540 : 0 ≤ ((ji52) : Int) := of_decide_eq_true (by first | (with_reducible assumption) | assumption)
              have q540 : (ji52) < (x9_2.length : Int) := of_decide_eq_true (by first | (with_reducible assumption) | assumption)
              obtain ⟨ad540, e540, hx540_0, hx540_1⟩ := at_T61 (Kd.R_reads' HO_9.out).2.2 (ji52) p540 q540
              obtain rfl : ad539 = ad540 := (by injection e540)
              replace p540 := eq_true p540
              replace q540 := eq_true q540
              refine start_ (n := 18) (S := fun w' => w'.cell? ⟨gb538, 0, none⟩ = some (.int .i64 ((rd_T61 x55_2 x57_2).f0)) ∧ w'.cell? ⟨gb538, 1, none⟩ = some (.int .i64 ((rd_T61 x55_2 x57_2).f1)) ∧ w'.cell? (ad539.add (((ji52)).toNat * 2)) = some (.int .i64 ((rd_T61 x9_2 (ji52)).f0)) ∧ w'.cell? ⟨(ad539.add (((ji52)).toNat * 2)).block, (ad539.add (((ji52)).toNat * 2)).off + 1, none⟩ = some (.int .i64 ((rd_T61 x9_2 (ji52)).f1)) ∧ w'.cell? (ad539.add (((ji52)).toNat * 2)) = some (.int .i64 ((rd_T61 x9_2 (ji52)).f0)) ∧ w'.cell? ⟨(ad539.add (((ji52)).toNat * 2)).block, (ad539.add (((ji52)).toNat * 2)).off + 1, none⟩ = some (.int .i64 ((rd_T61 x9_2 (ji52)).f1))) (ds := []) #[false, false, false, false, false, false, false, false, false, false, false, false, false, false, false, false, false, false] (by kernel_rfl) rfl rfl ⟨(blk_cell BK538.out 0).trans rfl, (blk_cell BK538.out 1).trans rfl, hx539_0, hx539_1, hx540_0, hx540_1⟩ (fun hHeld => ?_); refine with_tabW spec_l9Extents.tab19 spec_l9Extents.bits19 (fun HT_ HW_ => ?_)
              generalize w68.drew = w69 at HO_9 HO_55 BK538 HB hx539_0 hx539_1 hx540_0 hx540_1 hHeld ⊢
              refine pureS 0 64 HT_.out ?_
              refine pureS 1 65 HT_.out ?_
              refine pureS 2 66 HT_.out ?_
              refine pureS 3 67 HT_.out ?_
              refine pureS 4 68 HT_.out ?_
              refine pureS 5 69 HT_.out ?_
              refine pureS 6 70 HT_.out ?_
              refine pureS 8 72 HT_.out ?_
              refine pureS 9 73 HT_.out ?_
              refine pureS 10 74 HT_.out ?_
              refine pureS 11 75 HT_.out ?_
              refine pureS 14 78 HT_.out ?_
              refine takeS 7 71 HT_.out HW_.out hHeld (hr := by rintro w' ⟨s0, s1, s2, s3, s4, s5⟩; go_simp; with_reducible rfl) (h := ?_)
              refine takeS 12 76 HT_.out HW_.out hHeld (hr := by rintro w' ⟨s0, s1, s2, s3, s4, s5⟩; go_simp; with_reducible rfl) (h := ?_)
              refine pureS 13 77 HT_.out ?_
              refine takeS 15 79 HT_.out HW_.out hHeld (hr := by rintro w' ⟨s0, s1, s2, s3, s4, s5⟩; go_simp; with_reducible rfl) (h := ?_)
              refine pureS 16 80 HT_.out ?_
              refine pureS 17 81 HT_.out ?_
              refine done_ (done_of HT_.out (by kernel_rfl)) ?_
              obtain ⟨hcz70_0, hcz70_1⟩ := cz2 BK538
              obtain ⟨hfz70_0, hfz70_1⟩ := fz2 BK538
              try go_wp2_with (first | ((with_reducible refine gate_builtin (b := .append) (xs := #[.tmp 92, .tmp 94]) rfl ?_); at_builtin; refine Kd.R_append k61 (w0 := w) w.heap.size rfl (.tmp 92) (.tmp 94) 38 61 (.agg #[(.int .i64 0), (.int .i64 0)]) 16 rfl Try.underlying38 info61 rfl (by decide) (by omega) (.slice (some ad539) x9_2.length co67) x9_2 (⟨(rd_T61 x55_2 x57_2).f0, (rd_T61 x55_2 x57_2).f1⟩ : S61) [.int .i64 ((rd_T61 x55_2 x57_2).f0), .int .i64 ((rd_T61 x55_2 x57_2).f1)] (fun k_ => some k_ ≠ (.slice (some ad537) x55_2.length co47 : Value).ownBlock ∧ k_ ≠ gb538) (fun _ => False) rfl rfl ?aP (fun _ hk => hk.elim) ?aF ?aO ?aB ?aS ?aL ?_; (case aP => exact k61_mkM _ _ _ (⟨(rd_T61 x55_2 x57_2).f0, (rd_T61 x55_2 x57_2).f1⟩ : S61)); (case aB => exact (bs1 HB GE538)); (case aF => exact (fun k_ hk => ⟨Kd.fresh' (Kd.R_lt (rr HO_55.out)) k_ hk, Kd.freshB (bk BK538) k_ hk⟩)); (case aO => exact (rr HO_9.out)); (case aS => exact (below_size (bs1 HB GE538))); (case aL => have := LMc64.out; omega); intro v544 w71 ho hb hg hat; rw [← Ny543.out] at ho; replace HO_55 := Aside0.mk (Kd.R_after (ok := (fun k_ => k_ ≠ gb538)) (by (with_reducible repeat (first | apply Kd.R_alloc | apply Kd.R_drewN | apply Kd.R_drew)); exact Kd.R_mono HO_55.out (fun _ hk => ⟨hk.2, hk.1⟩)) hg hat); replace BK538 := Aside0.mk (blk_grown (bk BK538) hg (Kd.R_away HO_9.out (fun _ hk => hk.2))); replace HB := Aside0.mk (hb); have HO545 := Aside0.mk (ho); clear HO_9; clear ho hb hg hat))
              (try simp only [← hl55_2])
              go_roundg k2
              case measure => have := HK1.out; have := HK2.out; omega
              case rel => exact ⟨(y543), (x55_2), (wrap64 (x57_2 + 1)), (by first | rfl | (simp; done) | (simp [*]; done)), H', ⟨by have := HK1.out; have := HK2.out; omega⟩, ⟨by (try simp only [hl55_2]); (with_reducible repeat (first | apply Kd.R_alloc | apply Kd.R_drewN | apply Kd.R_drew)); exact Kd.R_mono HO545.out (fun _ hk => hk.1)⟩, ⟨by (try simp only [hl55_2]); (with_reducible repeat (first | apply Kd.R_alloc | apply Kd.R_drewN | apply Kd.R_drew)); exact Kd.R_mono HO_55.out (fun _ hk => hk.2)⟩, ⟨bs1 HB GE538⟩⟩
             ·
              rw [if_neg c64] at H
              exact absurd H (by simp)
           ·
            rw [if_neg c54] at H
            exact absurd H (by simp)
          ·
           rw [if_neg c53] at H
           exact absurd H (by simp)
         ·
          rw [if_neg c51] at H
          have c51b0 : decide (0 ≤ (wrap64 ((x9_2.length : Int) - 1))) = false := decide_eq_false c51
          (try (have c51b0h := c51b0; simp only [hl55_2] at c51b0h))
          clear c51
          by_cases c72 : x9_2.length < 8796093022208
          ·
           rw [if_pos c72] at H
           have LMc72 := Aside0.mk c72
           clear c72
           obtain ⟨y546, hy546⟩ : ∃ y_ : List (S61), y_ = (x9_2 ++ [(⟨(rd_T61 x55_2 x57_2).f0, (rd_T61 x55_2 x57_2).f1⟩ : S61)]) := ⟨_, rfl⟩
           replace H : (spec_l9Extents.l2 k2 y546 x55_2 (x3_1.length : Int) (wrap64 (x57_2 + 1))) = some r := by first | (rw [hy546]; with_reducible exact H) | (have H2_ := (Option.bind_some _ _).symm.trans H; rw [hy546]; with_reducible exact H2_) | (have H2_ := (Option.bind_some _ _).symm.trans H; with_reducible exact H2_) | with_reducible exact H | (rw [hy546]; exact H) | exact H
           have Ny546 := Aside0.mk hy546
           clear hy546
           have H' := Aside0.mk H
           clear H
           have p537 : 0 ≤ (x57_2 : Int) := of_decide_eq_true (by first | (with_reducible assumption) | assumption)
           have q537 : x57_2 < (x55_2.length : Int) := of_decide_eq_true (by first | (with_reducible assumption) | assumption)
           obtain ⟨ad537, e537, hx537_0, hx537_1⟩ := at_T61 (Kd.R_reads' HO_55.out).2.2 x57_2 p537 q537
           cases e537
           replace p537 := eq_true p537
           replace q537 := eq_true q537
           try go_wp2_with (first | ((with_reducible refine gate_dst (N := 11) rfl ?_); refine box_event ?hg (N := 11) ?hd (cs := #[.int .i64 0, .int .i64 0]) (t := 61) ?hr ?_; (case hd => rfl); (case hg => rfl); (case hr => first | (go_simp; done) | (go_simp; rfl)); intro gb538 hg w73 hbox hb; replace HO_9 := Aside0.mk (Kd.R_below (Kd.R_elderB (rr HO_9.out) gb538 (Nat.le_of_eq hg.symm)) hb); replace HO_55 := Aside0.mk (Kd.R_below (Kd.R_elderB (rr HO_55.out) gb538 (Nat.le_of_eq hg.symm)) hb); have BK538 := Aside0.mk (hbox); have GW538 := Aside0.mk ((by rw [hg]; exact (below_size (bs HB)) : w.heap.size ≤ gb538)); have GE538 := Aside0.mk ((by rw [hg]; exact (below_size (bs HB)) : w.heap.size ≤ gb538)); replace HB := Aside0.mk (below_step (bs HB) hb); clear hb hbox hg; obtain ⟨hcz74_0, hcz74_1⟩ := cz2 BK538; obtain ⟨hfz74_0, hfz74_1⟩ := fz2 BK538; obtain ⟨Ao75, co75, eo75⟩ := Kd.R_slice HO_9.out; subst eo75))
           have n0_ : Aside0 (Kd.R k61 61 ((w73.setCell ⟨gb538, 0, none⟩ (.int .i64 ((rd_T61 x55_2 x57_2).f0))).setCell ⟨gb538, 1, none⟩ (.int .i64 ((rd_T61 x55_2 x57_2).f1))) w.heap.size (fun k_ => some k_ ≠ (.slice (some ad537) x55_2.length co47 : Value).ownBlock ∧ k_ ≠ gb538) (.slice Ao75 x9_2.length co75) x9_2) := ⟨by (with_reducible repeat (first | apply Kd.R_alloc | apply Kd.R_drewN | apply Kd.R_drew)); exact Kd.R_mono (Kd.R_far (p := ⟨gb538, 1, none⟩) (Kd.R_far (p := ⟨gb538, 0, none⟩) (Kd.R_mono HO_9.out (fun k_ hk => (⟨hk, hk.2⟩ : _ ∧ k_ ≠ gb538))) (fun _ hk => hk.2) (.int .i64 ((rd_T61 x55_2 x57_2).f0))) (fun _ hk => hk.2) (.int .i64 ((rd_T61 x55_2 x57_2).f1))) (fun _ hk => ⟨hk.1.1, hk.1.2⟩)⟩
           have n1_ : Aside0 (Kd.R k61 61 ((w73.setCell ⟨gb538, 0, none⟩ (.int .i64 ((rd_T61 x55_2 x57_2).f0))).setCell ⟨gb538, 1, none⟩ (.int .i64 ((rd_T61 x55_2 x57_2).f1))) w.heap.size (fun k_ => some k_ ≠ (.slice Ao75 x9_2.length co75 : Value).ownBlock ∧ k_ ≠ gb538) (.slice (some ad537) x55_2.length co47) x55_2) := ⟨by (with_reducible repeat (first | apply Kd.R_alloc | apply Kd.R_drewN | apply Kd.R_drew)); exact Kd.R_mono (Kd.R_far (p := ⟨gb538, 1, none⟩) (Kd.R_far (p := ⟨gb538, 0, none⟩) (Kd.R_mono HO_55.out (fun k_ hk => (⟨hk, hk.2⟩ : _ ∧ k_ ≠ gb538))) (fun _ hk => hk.2) (.int .i64 ((rd_T61 x55_2 x57_2).f0))) (fun _ hk => hk.2) (.int .i64 ((rd_T61 x55_2 x57_2).f1))) (fun _ hk => ⟨hk.1.1, hk.1.2⟩)⟩
           have n2_ : Aside0 (((w73.setCell ⟨gb538, 0, none⟩ (.int .i64 ((rd_T61 x55_2 x57_2).f0))).setCell ⟨gb538, 1, none⟩ (.int .i64 ((rd_T61 x55_2 x57_2).f1))).heap[gb538]? = some (.cells #[.int .i64 ((rd_T61 x55_2 x57_2).f0), .int .i64 ((rd_T61 x55_2 x57_2).f1)] 61 (0, 0))) := ⟨by (with_reducible repeat (first | refine blk_drewN ?_ _ | refine blk_drew ?_ | refine blk_alloc ?_ _)); refine blk_put (cs := #[.int .i64 ((rd_T61 x55_2 x57_2).f0), .int .i64 0]) ?_ 1 _ rfl; (with_reducible repeat (first | refine blk_drewN ?_ _ | refine blk_drew ?_ | refine blk_alloc ?_ _)); refine blk_put (cs := #[.int .i64 0, .int .i64 0]) ?_ 0 _ rfl; (with_reducible repeat (first | refine blk_drewN ?_ _ | refine blk_drew ?_ | refine blk_alloc ?_ _)); exact BK538.out⟩
           have n3_ : Aside0 (Below w.heap.size w ((w73.setCell ⟨gb538, 0, none⟩ (.int .i64 ((rd_T61 x55_2 x57_2).f0))).setCell ⟨gb538, 1, none⟩ (.int .i64 ((rd_T61 x55_2 x57_2).f1)))) := ⟨bs1 HB GE538⟩
           (try clear HO_9)
           (try clear HO_55)
           (try clear BK538)
           (try clear HB)
           generalize ((w73.setCell ⟨gb538, 0, none⟩ (.int .i64 ((rd_T61 x55_2 x57_2).f0))).setCell ⟨gb538, 1, none⟩ (.int .i64 ((rd_T61 x55_2 x57_2).f1))) = w76 at n0_ n1_ n2_ n3_ ⊢
           have HO_9 := n0_
           have HO_55 := n1_
           have BK538 := n2_
           have HB := n3_
           clear n0_ n1_ n2_ n3_
           have n0_ := Aside0.mk (Kd.R_drew HO_9.out)
           have n1_ := Aside0.mk (Kd.R_drew HO_55.out)
           have n2_ := Aside0.mk (blk_drew BK538.out)
           have n3_ := Aside0.mk (below_drew1 HB.out)
           clear HO_9
           clear HO_55
           clear BK538
           clear HB
           have HO_9 := n0_
           have HO_55 := n1_
           have BK538 := n2_
           have HB := n3_
           clear n0_ n1_ n2_ n3_
           refine start_ (n := 18) (S := fun w' => True) (ds := []) #[false, false, false, false, false, false, false, false, false, false, false, false, false, false, false, false, false, false] (by kernel_rfl) rfl rfl trivial (fun hHeld => ?_); refine with_tabW spec_l9Extents.tab19 spec_l9Extents.bits19 (fun HT_ HW_ => ?_)
           generalize w76.drew = w77 at HO_9 HO_55 BK538 HB hHeld ⊢
           refine pureS 0 64 HT_.out ?_
           refine pureS 1 65 HT_.out ?_
           refine pureS 2 66 HT_.out ?_
           refine pureU 3 67 HT_.out ?_
           refine pureU 4 68 HT_.out ?_
           refine pureU 5 69 HT_.out ?_
           refine pureU 6 70 HT_.out ?_
           refine pureU 7 71 HT_.out ?_
           refine pureU 8 72 HT_.out ?_
           refine pureU 9 73 HT_.out ?_
           refine pureU 10 74 HT_.out ?_
           refine pureU 11 75 HT_.out ?_
           refine pureU 12 76 HT_.out ?_
           refine pureU 13 77 HT_.out ?_
           refine pureU 14 78 HT_.out ?_
           refine pureU 15 79 HT_.out ?_
           refine pureU 16 80 HT_.out ?_
           refine pureS 17 81 HT_.out ?_
           refine done_ (done_of HT_.out (by kernel_rfl)) ?_
           obtain ⟨hcz78_0, hcz78_1⟩ := cz2 BK538
           obtain ⟨hfz78_0, hfz78_1⟩ := fz2 BK538
           try go_wp2_with (first | ((with_reducible refine gate_builtin (b := .append) (xs := #[.tmp 92, .tmp 94]) rfl ?_); at_builtin; refine Kd.R_append k61 (w0 := w) w.heap.size rfl (.tmp 92) (.tmp 94) 38 61 (.agg #[(.int .i64 0), (.int .i64 0)]) 16 rfl Try.underlying38 info61 rfl (by decide) (by omega) (.slice Ao75 x9_2.length co75) x9_2 (⟨(rd_T61 x55_2 x57_2).f0, (rd_T61 x55_2 x57_2).f1⟩ : S61) [.int .i64 ((rd_T61 x55_2 x57_2).f0), .int .i64 ((rd_T61 x55_2 x57_2).f1)] (fun k_ => some k_ ≠ (.slice (some ad537) x55_2.length co47 : Value).ownBlock ∧ k_ ≠ gb538) (fun _ => False) rfl rfl ?aP (fun _ hk => hk.elim) ?aF ?aO ?aB ?aS ?aL ?_; (case aP => exact k61_mkM _ _ _ (⟨(rd_T61 x55_2 x57_2).f0, (rd_T61 x55_2 x57_2).f1⟩ : S61)); (case aB => exact (bs1 HB GE538)); (case aF => exact (fun k_ hk => ⟨Kd.fresh' (Kd.R_lt (rr HO_55.out)) k_ hk, Kd.freshB (bk BK538) k_ hk⟩)); (case aO => exact (rr HO_9.out)); (case aS => exact (below_size (bs1 HB GE538))); (case aL => have := LMc72.out; omega); intro v547 w79 ho hb hg hat; rw [← Ny546.out] at ho; replace HO_55 := Aside0.mk (Kd.R_after (ok := (fun k_ => k_ ≠ gb538)) (by (with_reducible repeat (first | apply Kd.R_alloc | apply Kd.R_drewN | apply Kd.R_drew)); exact Kd.R_mono HO_55.out (fun _ hk => ⟨hk.2, hk.1⟩)) hg hat); replace BK538 := Aside0.mk (blk_grown (bk BK538) hg (Kd.R_away HO_9.out (fun _ hk => hk.2))); replace HB := Aside0.mk (hb); have HO548 := Aside0.mk (ho); clear HO_9; clear ho hb hg hat))
           (try simp only [← hl55_2])
           go_roundg k2
           case measure => have := HK1.out; have := HK2.out; omega
           case rel => exact ⟨(y546), (x55_2), (wrap64 (x57_2 + 1)), (by first | rfl | (simp; done) | (simp [*]; done)), H', ⟨by have := HK1.out; have := HK2.out; omega⟩, ⟨by (try simp only [hl55_2]); (with_reducible repeat (first | apply Kd.R_alloc | apply Kd.R_drewN | apply Kd.R_drew)); exact Kd.R_mono HO548.out (fun _ hk => hk.1)⟩, ⟨by (try simp only [hl55_2]); (with_reducible repeat (first | apply Kd.R_alloc | apply Kd.R_drewN | apply Kd.R_drew)); exact Kd.R_mono HO_55.out (fun _ hk => hk.2)⟩, ⟨bs1 HB GE538⟩⟩
          ·
           rw [if_neg c72] at H
           exact absurd H (by simp)
        ·
         rw [if_neg c50] at H
         exact absurd H (by simp)
       ·
        rw [if_neg c49] at H
        exact absurd H (by simp)
      ·
       rw [if_neg c48] at H
       have c48b0 : decide (x57_2 < (x3_1.length : Int)) = false := decide_eq_false c48
       (try (have c48b0h := c48b0; simp only [hl55_2] at c48b0h))
       clear c48
       obtain rfl := Option.some.inj H
       go_wp2
       go_ret
       exact ⟨_, by first | rfl | (simp [errW_none, errW_some] <;> rfl) | (simp [*, errW_none, errW_some] <;> rfl), by (with_reducible repeat (first | apply Kd.R_alloc | apply Kd.R_drewN | apply Kd.R_drew)); exact Kd.R_mono HO_9.out (fun _ hk => trivial), bs HB⟩

/-! ### impl_blocksIn_1: function 77 -/
def impl_blocksIn_1.f (a0 : Int) (l1_0 : List Bool) : Option (Bool) := if 0 ≤ a0 then (if a0 < (l1_0.length : Int) then (some (rdOf false l1_0 a0)) else (none)) else (none)
set_option maxHeartbeats 8000000 in
set_option maxRecDepth 100000 in
theorem impl_blocksIn_1.calls (a0 : Int) (gx1_0 : Nat) (A1_0 : Option Addr) (c1_0 : Nat) (l1_0 : List Bool) (r : Bool) (w : World) (hr1_0 : Kd.C Kd.bool w A1_0 l1_0.length l1_0) (hc1_0 : l1_0.length ≤ c1_0) (hx1_0 : w.heap[gx1_0]? = some (.cells #[.slice A1_0 l1_0.length c1_0] 72 (0, 0))) (h : impl_blocksIn_1.f a0 l1_0 = some r) :
  Calls Try.prog 77 #[.int .i64 a0, .pointer (some ⟨gx1_0, 0, none⟩)] w fun e w' => e = .returned (.bool r) ∧ Drawn0 w w' := by
 have HR1_0 := Aside0.mk hr1_0
 have HC1_0 := Aside0.mk hc1_0
 clear hr1_0 hc1_0
 have BK554 := Aside0.mk hx1_0
 clear hx1_0
 have H : (if 0 ≤ a0 then (if a0 < (l1_0.length : Int) then (some (rdOf false l1_0 a0)) else (none)) else (none)) = some r := h
 clear h
 by_cases c3 : 0 ≤ a0
 ·
  rw [if_pos c3] at H
  have c3b0 : decide (0 ≤ a0) = true := decide_eq_true c3
  clear c3
  by_cases c4 : a0 < (l1_0.length : Int)
  ·
   rw [if_pos c4] at H
   have c4b0 : decide (a0 < (l1_0.length : Int)) = true := decide_eq_true c4
   clear c4
   obtain rfl := Option.some.inj H
   have hcz5_0 : w.cell? ⟨gx1_0, 0, none⟩ = some (.slice A1_0 l1_0.length c1_0) := (blk_cell BK554.out 0).trans rfl
   have hfz5_0 := fz1 BK554
   have p555 : 0 ≤ (a0 : Int) := of_decide_eq_true (by first | (with_reducible assumption) | assumption)
   have q555 : a0 < (l1_0.length : Int) := of_decide_eq_true (by first | (with_reducible assumption) | assumption)
   obtain ⟨ad555, e555, hx555_0⟩ := Kd.at_bool HR1_0.out a0 p555 q555
   cases e555
   replace p555 := eq_true p555
   replace q555 := eq_true q555
   go_enter Try.func77, Try.ntmps77
   go_wp2
   go_ret
   exact ⟨by first | rfl | (simp; done) | (simp [*]; done), by repeat (first | exact Drawn0.refl _ | apply Drawn0.step)⟩
  ·
   rw [if_neg c4] at H
   exact absurd H (by simp)
 ·
  rw [if_neg c3] at H
  exact absurd H (by simp)

/-! ### impl_merged_at_impl_blocksIn_1: function 58 -/
def impl_merged_at_impl_blocksIn_1.l0 : Nat → List (S61) → Int → Int → List Bool → Option ((List (S61)))
 | 0, _, _, _, _ => none
 | k + 1, x5, x9, x10, x557000 => if x10 < x9 then ((impl_blocksIn_1.f x10 x557000).bind fun t560 => (if t560 = true then (if (wrap64 ((x5.length : Int) - 1)) ≥ 0 then (if 0 ≤ (wrap64 ((x5.length : Int) - 1)) then (if (wrap64 ((x5.length : Int) - 1)) < (x5.length : Int) then (if (wrap64 (((rd_T61 x5 (wrap64 ((x5.length : Int) - 1))).f0) + ((rd_T61 x5 (wrap64 ((x5.length : Int) - 1))).f1))) = x10 then (impl_merged_at_impl_blocksIn_1.l0 k (x5.set ((wrap64 ((x5.length : Int) - 1)) : Int).toNat (⟨(rd_T61 x5 (wrap64 ((x5.length : Int) - 1))).f0, wrap64 (((rd_T61 x5 (wrap64 ((x5.length : Int) - 1))).f1) + 1)⟩ : S61)) x9 (wrap64 (x10 + 1)) x557000) else (if x5.length < 8796093022208 then (impl_merged_at_impl_blocksIn_1.l0 k (x5 ++ [(⟨x10, 1⟩ : S61)]) x9 (wrap64 (x10 + 1)) x557000) else (none))) else (none)) else (none)) else (if x5.length < 8796093022208 then (impl_merged_at_impl_blocksIn_1.l0 k (x5 ++ [(⟨x10, 1⟩ : S61)]) x9 (wrap64 (x10 + 1)) x557000) else (none))) else (impl_merged_at_impl_blocksIn_1.l0 k x5 x9 (wrap64 (x10 + 1)) x557000))) else (some x5)
def impl_merged_at_impl_blocksIn_1.f (k : Nat) (a0 : Int) (l1_0 : List Bool) : Option ((List (S61))) := impl_merged_at_impl_blocksIn_1.l0 k (([] : List (S61))) a0 0 l1_0
theorem impl_merged_at_impl_blocksIn_1.mono_l : ∀ k, (∀ y0 y1 y2 y3, LeO (impl_merged_at_impl_blocksIn_1.l0 k y0 y1 y2 y3) (impl_merged_at_impl_blocksIn_1.l0 (k + 1) y0 y1 y2 y3))
 | 0 => fun _ _ _ _ r h => by simp [impl_merged_at_impl_blocksIn_1.l0] at h
 | k + 1 => by
  have ih0 := impl_merged_at_impl_blocksIn_1.mono_l k
  ·
   intro y0 y1 y2 y3
   unfold impl_merged_at_impl_blocksIn_1.l0
   repeat' first
   | (with_reducible exact ih0 _ _ _ _)
   | (with_reducible exact LeO.refl _)
   | (with_reducible exact LeO.none _)
   | (with_reducible refine LeO.ite ?_ ?_)
   | (with_reducible refine LeO.bind ?_ (fun _ => ?_))
   | exact ih0 _ _ _ _
   | exact LeO.none _
   | refine LeO.ite ?_ ?_
   | refine LeO.bind ?_ (fun _ => ?_)
theorem impl_merged_at_impl_blocksIn_1.mono : ∀ a0 a1 k, LeO (impl_merged_at_impl_blocksIn_1.f k a0 a1) (impl_merged_at_impl_blocksIn_1.f (k + 1) a0 a1) := by
 intro a0 a1 k
 have ih0 := impl_merged_at_impl_blocksIn_1.mono_l k
 unfold impl_merged_at_impl_blocksIn_1.f
 repeat' first
   | (with_reducible exact ih0 _ _ _ _)
   | (with_reducible exact LeO.refl _)
   | (with_reducible exact LeO.none _)
   | (with_reducible refine LeO.ite ?_ ?_)
   | (with_reducible refine LeO.bind ?_ (fun _ => ?_))
   | exact ih0 _ _ _ _
   | exact LeO.none _
   | refine LeO.ite ?_ ?_
   | refine LeO.bind ?_ (fun _ => ?_)
set_option maxHeartbeats 8000000 in
set_option maxRecDepth 100000 in
theorem impl_merged_at_impl_blocksIn_1.calls (k : Nat) (a0 : Int) (gx1_0 : Nat) (A1_0 : Option Addr) (c1_0 : Nat) (l1_0 : List Bool) (r : List (S61)) (w : World) (hr1_0 : Kd.C Kd.bool w A1_0 l1_0.length l1_0) (hc1_0 : l1_0.length ≤ c1_0) (hx1_0 : w.heap[gx1_0]? = some (.cells #[.slice A1_0 l1_0.length c1_0] 72 (0, 0))) (h : impl_merged_at_impl_blocksIn_1.f k a0 l1_0 = some r) :
  Calls Try.prog 58 #[.int .i64 a0, .func (.func 77) #[] #[.pointer (some ⟨gx1_0, 0, none⟩)]] w fun e w' => ∃ v0_ : Value, e = .returned (v0_) ∧ Kd.R k61 61 w' w.heap.size (fun _ => True) v0_ r ∧ Below w.heap.size w w' := by
 have hu61 := Try.underlying61
 have eg77 := fun (args : Array Value) (w : World) => enters_ (P := Try.prog) Try.func77 (by kernel_rfl) rfl args w
 have HR1_0 := Aside0.mk hr1_0
 have HC1_0 := Aside0.mk hc1_0
 clear hr1_0 hc1_0
 have BK556 := Aside0.mk hx1_0
 clear hx1_0
 have HB := Aside0.mk (Below.refl w.heap.size w)
 have H : (impl_merged_at_impl_blocksIn_1.l0 k (([] : List (S61))) a0 0 l1_0) = some r := h
 clear h
 obtain ⟨y557, hy557⟩ : ∃ y_ : List (S61), y_ = (([] : List (S61))) := ⟨_, rfl⟩
 replace H : (impl_merged_at_impl_blocksIn_1.l0 k y557 a0 0 l1_0) = some r := by first | (rw [hy557]; with_reducible exact H) | (have H2_ := (Option.bind_some _ _).symm.trans H; rw [hy557]; with_reducible exact H2_) | (have H2_ := (Option.bind_some _ _).symm.trans H; with_reducible exact H2_) | with_reducible exact H | (rw [hy557]; exact H) | exact H
 have Ny557 := Aside0.mk hy557
 clear hy557
 have H' := Aside0.mk H
 clear H
 go_enter Try.func58, Try.ntmps58
 go_wp2_with (first | ((with_reducible refine gate_dst (N := 8) rfl ?_); refine Kd.R_lit k61 _ 61 ?hg (N := 8) ?hd (xs := ([] : List (S61))) (inner := []) (ok := fun _ => True) (okp := fun _ => True) ?hr ?hp (fun _ hk => hk) trivial (Below.refl _ _) (Nat.le_refl _) (by simp) ?_; (case hd => rfl); (case hg => rfl); (case hr => first | (go_simp; done) | (go_simp; rfl)); (case hp => exact (Reps.none _ _)); intro v558 w3 ho4 hb hg_ hnew_; clear hg_ hnew_; (first | rw [← Ny557.out] at ho4 | (simp only [Int.reduceToNat] at ho4; rw [← Ny557.out] at ho4)); have HO559 := Aside0.mk (Kd.R_lower ho4 (below_size (bs HB))); replace BK556 := Aside0.mk (blk_below (g := gx1_0) (o := .cells #[.slice A1_0 l1_0.length c1_0] 72 (0, 0)) (bk BK556) hb); replace HB := Aside0.mk (below_step (bs HB) hb); clear hb ho4))
 repeat (go_quiet (first | ((with_reducible refine gate_dst (N := 8) rfl ?_); refine Kd.R_lit k61 _ 61 ?hg (N := 8) ?hd (xs := ([] : List (S61))) (inner := []) (ok := fun _ => True) (okp := fun _ => True) ?hr ?hp (fun _ hk => hk) trivial (Below.refl _ _) (Nat.le_refl _) (by simp) ?_; (case hd => rfl); (case hg => rfl); (case hr => first | (go_simp; done) | (go_simp; rfl)); (case hp => exact (Reps.none _ _)); intro v558 w3 ho4 hb hg_ hnew_; clear hg_ hnew_; (first | rw [← Ny557.out] at ho4 | (simp only [Int.reduceToNat] at ho4; rw [← Ny557.out] at ho4)); have HO559 := Aside0.mk (Kd.R_lower ho4 (below_size (bs HB))); replace BK556 := Aside0.mk (blk_below (g := gx1_0) (o := .cells #[.slice A1_0 l1_0.length c1_0] 72 (0, 0)) (bk BK556) hb); replace HB := Aside0.mk (below_step (bs HB) hb); clear hb ho4)); try go_wp2_with (first | ((with_reducible refine gate_dst (N := 8) rfl ?_); refine Kd.R_lit k61 _ 61 ?hg (N := 8) ?hd (xs := ([] : List (S61))) (inner := []) (ok := fun _ => True) (okp := fun _ => True) ?hr ?hp (fun _ hk => hk) trivial (Below.refl _ _) (Nat.le_refl _) (by simp) ?_; (case hd => rfl); (case hg => rfl); (case hr => first | (go_simp; done) | (go_simp; rfl)); (case hp => exact (Reps.none _ _)); intro v558 w3 ho4 hb hg_ hnew_; clear hg_ hnew_; (first | rw [← Ny557.out] at ho4 | (simp only [Int.reduceToNat] at ho4; rw [← Ny557.out] at ho4)); have HO559 := Aside0.mk (Kd.R_lower ho4 (below_size (bs HB))); replace BK556 := Aside0.mk (blk_below (g := gx1_0) (o := .cells #[.slice A1_0 l1_0.length c1_0] 72 (0, 0)) (bk BK556) hb); replace HB := Aside0.mk (below_step (bs HB) hb); clear hb ho4)))
 go_loopg [5, 10] k (fun kq v5 v10 w' => ∃ (x5_1 : List (S61)) (x10_1 : Int), v10 = .int .i64 x10_1 ∧ Aside0 (impl_merged_at_impl_blocksIn_1.l0 kq x5_1 a0 x10_1 l1_0 = some r) ∧ Aside0 (kq ≤ k) ∧ Aside0 (Kd.R k61 61 w' w.heap.size (fun _ => True) v5 x5_1) ∧ Aside0 (w'.heap[gx1_0]? = some (.cells #[(.slice A1_0 l1_0.length c1_0)] 72 (0, 0))) ∧ Aside0 (Below w.heap.size w w'))
 case atStart => exact ⟨(y557), (0), (by first | rfl | (simp; done) | (simp [*]; done)), H', ⟨Nat.le_refl _⟩, ⟨rr HO559.out⟩, ⟨bk BK556⟩, ⟨bs HB⟩⟩
 case round =>
  clear H'
  try clear c1
  try clear hx1
  try clear p2
  try clear hx1_0
  obtain ⟨x5_1, x10_1, rfl, HA, HK1, HO_5, BK556, HB⟩ := hrel
  cases gk with
  | zero => exact absurd HA.out (by simp [impl_merged_at_impl_blocksIn_1.l0])
  | succ k1 =>
   have H := HA.out
   clear HA
   simp only [impl_merged_at_impl_blocksIn_1.l0] at H
   by_cases c5 : x10_1 < a0
   ·
    rw [if_pos c5] at H
    have c5b0 : decide (x10_1 < a0) = true := decide_eq_true c5
    clear c5
    replace H := Option.bind_eq_some_iff.mp H
    obtain ⟨t560, A60, H⟩ := H
    replace H : (if t560 = true then (if (wrap64 ((x5_1.length : Int) - 1)) ≥ 0 then (if 0 ≤ (wrap64 ((x5_1.length : Int) - 1)) then (if (wrap64 ((x5_1.length : Int) - 1)) < (x5_1.length : Int) then (if (wrap64 (((rd_T61 x5_1 (wrap64 ((x5_1.length : Int) - 1))).f0) + ((rd_T61 x5_1 (wrap64 ((x5_1.length : Int) - 1))).f1))) = x10_1 then (impl_merged_at_impl_blocksIn_1.l0 k1 (x5_1.set ((wrap64 ((x5_1.length : Int) - 1)) : Int).toNat (⟨(rd_T61 x5_1 (wrap64 ((x5_1.length : Int) - 1))).f0, wrap64 (((rd_T61 x5_1 (wrap64 ((x5_1.length : Int) - 1))).f1) + 1)⟩ : S61)) a0 (wrap64 (x10_1 + 1)) l1_0) else (if x5_1.length < 8796093022208 then (impl_merged_at_impl_blocksIn_1.l0 k1 (x5_1 ++ [(⟨x10_1, 1⟩ : S61)]) a0 (wrap64 (x10_1 + 1)) l1_0) else (none))) else (none)) else (none)) else (if x5_1.length < 8796093022208 then (impl_merged_at_impl_blocksIn_1.l0 k1 (x5_1 ++ [(⟨x10_1, 1⟩ : S61)]) a0 (wrap64 (x10_1 + 1)) l1_0) else (none))) else (impl_merged_at_impl_blocksIn_1.l0 k1 x5_1 a0 (wrap64 (x10_1 + 1)) l1_0)) = some r := H
    have A6 := Aside0.mk A60
    clear A60
    by_cases c7 : t560 = true
    ·
     subst c7
     rw [if_pos rfl] at H
     by_cases c8 : (wrap64 ((x5_1.length : Int) - 1)) ≥ 0
     ·
      rw [if_pos c8] at H
      have c8b0 : decide (0 ≤ (wrap64 ((x5_1.length : Int) - 1))) = true := decide_eq_true c8
      clear c8
      obtain ⟨ji9, hji9⟩ : ∃ j_ : Int, (wrap64 ((x5_1.length : Int) - 1)) = j_ := ⟨_, rfl⟩
      replace H : (if 0 ≤ (ji9) then (if (ji9) < (x5_1.length : Int) then (if (wrap64 (((rd_T61 x5_1 (ji9)).f0) + ((rd_T61 x5_1 (ji9)).f1))) = x10_1 then (impl_merged_at_impl_blocksIn_1.l0 k1 (x5_1.set ((ji9) : Int).toNat (⟨(rd_T61 x5_1 (ji9)).f0, wrap64 (((rd_T61 x5_1 (ji9)).f1) + 1)⟩ : S61)) a0 (wrap64 (x10_1 + 1)) l1_0) else (if x5_1.length < 8796093022208 then (impl_merged_at_impl_blocksIn_1.l0 k1 (x5_1 ++ [(⟨x10_1, 1⟩ : S61)]) a0 (wrap64 (x10_1 + 1)) l1_0) else (none))) else (none)) else (none)) = some r := by first | (rw [hji9] at H; exact H) | (simp only [hji9] at H ⊢; exact H)
      (try rw [hji9] at c8b0)
      (try rw [hji9] at A6)
      have hji9w : (IntKind.i64.wrap ((x5_1.length : Int) - 1)) = ji9 := (i64_w _).trans hji9
      by_cases c10 : 0 ≤ (ji9)
      ·
       rw [if_pos c10] at H
       have c10b0 : decide (0 ≤ (ji9)) = true := decide_eq_true c10
       clear c10
       by_cases c11 : (ji9) < (x5_1.length : Int)
       ·
        rw [if_pos c11] at H
        have c11b0 : decide ((ji9) < (x5_1.length : Int)) = true := decide_eq_true c11
        clear c11
        by_cases c12 : (wrap64 (((rd_T61 x5_1 (ji9)).f0) + ((rd_T61 x5_1 (ji9)).f1))) = x10_1
        ·
         rw [if_pos c12] at H
         have c12b0 : ((wrap64 (((rd_T61 x5_1 (ji9)).f0) + ((rd_T61 x5_1 (ji9)).f1))) == x10_1) = true := beq_iff_eq.mpr c12
         have c12b1 : ((wrap64 (((rd_T61 x5_1 (ji9)).f0) + ((rd_T61 x5_1 (ji9)).f1))) != x10_1) = false := bne_eq_false_iff_eq.mpr c12
         clear c12
         obtain ⟨y564, hy564⟩ : ∃ y_ : List (S61), y_ = (x5_1.set ((ji9) : Int).toNat (⟨(rd_T61 x5_1 (ji9)).f0, wrap64 (((rd_T61 x5_1 (ji9)).f1) + 1)⟩ : S61)) := ⟨_, rfl⟩
         replace H : (impl_merged_at_impl_blocksIn_1.l0 k1 y564 a0 (wrap64 (x10_1 + 1)) l1_0) = some r := by first | (rw [hy564]; with_reducible exact H) | (have H2_ := (Option.bind_some _ _).symm.trans H; rw [hy564]; with_reducible exact H2_) | (have H2_ := (Option.bind_some _ _).symm.trans H; with_reducible exact H2_) | with_reducible exact H | (rw [hy564]; exact H) | exact H
         have Ny564 := Aside0.mk hy564
         clear hy564
         have H' := Aside0.mk H
         clear H
         go_wp2_with (first | (go_at_call 77; (with_reducible refine (impl_blocksIn_1.calls x10_1 gx1_0 A1_0 c1_0 l1_0 true _ ?side1 ?side2 ?side3 A6.out).mono ?_); (case side1 => exact cb HR1_0 HB); (case side2 => exact HC1_0.out); (case side3 => (with_reducible repeat (first | refine blk_drewN ?_ _ | refine blk_drew ?_ | refine blk_alloc ?_ _)); exact BK556.out); rintro e w' ⟨rfl, ⟨nd, rfl⟩⟩; (try first | exact ⟨rfl, _, World.drewN_drewN _ _ _⟩ | exact ⟨rfl, _, Eq.trans (World.drewN_drewN _ _ _) (congrArg (World.drewN _) (Nat.add_assoc _ _ _))⟩); obtain ⟨Ao14, co14, eo14⟩ := Kd.R_slice HO_5.out; subst eo14; have p561 : 0 ≤ ((ji9) : Int) := of_decide_eq_true (by first | (with_reducible assumption) | assumption); have q561 : (ji9) < (x5_1.length : Int) := of_decide_eq_true (by first | (with_reducible assumption) | assumption); obtain ⟨ad561, e561, hx561_0, hx561_1⟩ := at_T61 (Kd.R_reads' HO_5.out).2.2 (ji9) p561 q561; cases e561; replace p561 := eq_true p561; replace q561 := eq_true q561; have p562 : 0 ≤ ((ji9) : Int) := of_decide_eq_true (by first | (with_reducible assumption) | assumption); have q562 : (ji9) < (x5_1.length : Int) := of_decide_eq_true (by first | (with_reducible assumption) | assumption); obtain ⟨ad562, e562, hx562_0, hx562_1⟩ := at_T61 (Kd.R_reads' HO_5.out).2.2 (ji9) p562 q562; obtain rfl : ad561 = ad562 := (by injection e562); replace p562 := eq_true p562; replace q562 := eq_true q562; have p563 : 0 ≤ ((ji9) : Int) := of_decide_eq_true (by first | (with_reducible assumption) | assumption); have q563 : (ji9) < (x5_1.length : Int) := of_decide_eq_true (by first | (with_reducible assumption) | assumption); obtain ⟨ad563, e563, hx563_0, hx563_1⟩ := at_T61 (Kd.R_reads' HO_5.out).2.2 (ji9) p563 q563; obtain rfl : ad561 = ad563 := (by injection e563); replace p563 := eq_true p563; replace q563 := eq_true q563; have p13 : 0 ≤ ((ji9) : Int) := of_decide_eq_true (by first | (with_reducible assumption) | assumption); have q13 : ((ji9) : Int) < ((x5_1.length : Int) : Int) := of_decide_eq_true (by first | (with_reducible assumption) | assumption); obtain ⟨go13, co13, eo13, gb13, gl13, cl13, HG13⟩ := Kd.R_form HO_5.out (by omega); (first | cases eo13 | (injection eo13 with ea_ en_ ec_; (first | subst ea_ | (injection ea_ with ea_; subst ea_)); subst ec_; clear en_)); have GB13 := Aside0.mk gb13; have GG13 := Aside0.mk HG13; clear gb13 gl13 HG13; (first | simp only [add_plain] at hx561_0 | skip); (first | simp only [add_plain] at hx561_1 | skip); (first | simp only [add_plain] at hx562_0 | skip); (first | simp only [add_plain] at hx562_1 | skip); (first | simp only [add_plain] at hx563_0 | skip); (first | simp only [add_plain] at hx563_1 | skip); obtain ⟨ce13, hcl13, hM13, hcc13, hfr13⟩ := Kd.R_elem HO_5.out z61 ((ji9) : Int) p13 q13; obtain rfl := k61_openM hM13; have hx13_0 : wr.cell? ⟨go13, ((ji9) : Int).toNat * 2, none⟩ = some (.int .i64 ((rd_T61 x5_1 (ji9)).f0)) := hcc13 0 _ rfl; have hx13_1 : wr.cell? ⟨go13, ((ji9) : Int).toNat * 2 + 1, none⟩ = some (.int .i64 ((rd_T61 x5_1 (ji9)).f1)) := hcc13 1 _ rfl; have hf13_0 : wr.frozen? ⟨go13, ((ji9) : Int).toNat * 2, none⟩ = false := hfr13 0; have hf13_1 : wr.frozen? ⟨go13, ((ji9) : Int).toNat * 2 + 1, none⟩ = false := hfr13 1; clear hcl13 hcc13 hfr13 hM13; replace p13 := eq_true p13; replace q13 := eq_true q13; have HX15 := Aside0.mk (show Kd.R k61 61 wr w.heap.size (fun _ => True) (.slice (some ⟨go13, 0, none⟩) x5_1.length co14) x5_1 from (rr HO_5.out)); obtain ⟨ce15, hcl15, hM15, hcc15, hfr15⟩ := Kd.R_elem HX15.out z61 ((ji9) : Int) (of_decide_eq_true (by first | (with_reducible assumption) | assumption)) (by have h_ : ((ji9) : Int) < ((x5_1.length : Int) : Int) := of_decide_eq_true (by first | (with_reducible assumption) | assumption); first | exact h_ | (have e_ := (Kd.R_reads' HO_5.out).1; omega) | simpa using h_); obtain rfl := k61_openM hM15; have HP15 := Kd.R_seg HX15.out ((ji9) : Int) (of_decide_eq_true (by first | (with_reducible assumption) | assumption)) (by have h_ : ((ji9) : Int) < ((x5_1.length : Int) : Int) := of_decide_eq_true (by first | (with_reducible assumption) | assumption); first | exact h_ | (have e_ := (Kd.R_reads' HO_5.out).1; omega) | simpa using h_) (seg := [.int .i64 (wrap64 (((rd_T61 x5_1 (ji9)).f1) + 1))]) (j := 1) hcl15 hcc15 (show 2 ≤ 2 from by decide) (x' := (⟨(rd_T61 x5_1 (ji9)).f0, wrap64 (((rd_T61 x5_1 (ji9)).f1) + 1)⟩ : S61)) (k61_mkM _ _ _ (⟨(rd_T61 x5_1 (ji9)).f0, wrap64 (((rd_T61 x5_1 (ji9)).f1) + 1)⟩ : S61) ) (fun _ hk => hk); have hx15_1 := hcc15 1 _ rfl; (try simp only [show (k61).sz = 2 from rfl, Nat.mul_one, Nat.add_zero] at hx15_1); have hf15_1 := hfr15 1; (try simp only [show (k61).sz = 2 from rfl, Nat.mul_one, Nat.add_zero] at hf15_1); clear hcl15 hcc15 hfr15 hM15) | ((with_reducible refine gate_store (t := 3) (p := 44) rfl ?_); (try (rw [drewN_self wr]; generalize hq_ : World.drewN wr _ = wr; replace HO_5 := Aside0.mk (Kd.R_at hq_ HO_5.out); replace BK556 := Aside0.mk (blk_at hq_ BK556.out); replace HB := Aside0.mk (below_at hq_ HB.out); clear hq_; (try (have HX15 := Aside0.mk (show Kd.R k61 61 wr w.heap.size (fun _ => True) (.slice (some ⟨go13, 0, none⟩) x5_1.length co14) x5_1 from (rr HO_5.out)))); (try (obtain ⟨ce15, hcl15, hM15, hcc15, hfr15⟩ := Kd.R_elem HX15.out z61 ((ji9) : Int) (of_decide_eq_true (by first | (with_reducible assumption) | assumption)) (by have h_ : ((ji9) : Int) < ((x5_1.length : Int) : Int) := of_decide_eq_true (by first | (with_reducible assumption) | assumption); first | exact h_ | (have e_ := (Kd.R_reads' HO_5.out).1; omega) | simpa using h_))); (try (obtain rfl := k61_openM hM15)); (try (have HP15 := Kd.R_seg HX15.out ((ji9) : Int) (of_decide_eq_true (by first | (with_reducible assumption) | assumption)) (by have h_ : ((ji9) : Int) < ((x5_1.length : Int) : Int) := of_decide_eq_true (by first | (with_reducible assumption) | assumption); first | exact h_ | (have e_ := (Kd.R_reads' HO_5.out).1; omega) | simpa using h_) (seg := [.int .i64 (wrap64 (((rd_T61 x5_1 (ji9)).f1) + 1))]) (j := 1) hcl15 hcc15 (show 2 ≤ 2 from by decide) (x' := (⟨(rd_T61 x5_1 (ji9)).f0, wrap64 (((rd_T61 x5_1 (ji9)).f1) + 1)⟩ : S61)) (k61_mkM _ _ _ (⟨(rd_T61 x5_1 (ji9)).f0, wrap64 (((rd_T61 x5_1 (ji9)).f1) + 1)⟩ : S61) ) (fun _ hk => hk))); (try (have hx15_1 := hcc15 1 _ rfl)); (try (try simp only [show (k61).sz = 2 from rfl, Nat.mul_one, Nat.add_zero] at hx15_1)); (try (have hf15_1 := hfr15 1)); (try (try simp only [show (k61).sz = 2 from rfl, Nat.mul_one, Nat.add_zero] at hf15_1)); (try (clear hcl15 hcc15 hfr15 hM15)))); refine store_event (t := 3) (p := 44) (v := ?vo_w16) (w1 := (wr.setCell ⟨go13, ((ji9) : Int).toNat * 2 + 1, none⟩ (.int .i64 (wrap64 (((rd_T61 x5_1 (ji9)).f1) + 1))))) ?hg ?ho ?hn ?hr ?_; (case ho => rfl); (case hg => rfl); (case hn => rfl); (case hr => first | (go_simp; done) | (go_simp; rfl)); intro w16 hw; have hg : wr.grownBy w16 (some go13) := (by rw [hw]; exact HP15.2); have hp_ : Kd.R k61 61 w16 w.heap.size (fun _ => True) (.slice (some ⟨go13, 0, none⟩) x5_1.length co14) y564 := (by rw [hw, Ny564.out]; exact HP15.1); clear HP15; replace BK556 := Aside0.mk (blk_grown (g := gx1_0) (o := .cells #[.slice A1_0 l1_0.length c1_0] 72 (0, 0)) (bk BK556) hg (Kd.R_ne HO_5.out BK556.out (by decide))); replace HO_5 := Aside0.mk (hp_); replace HB := Aside0.mk ((by rw [hw]; exact below_set (HB.out) GB13.out : Below w.heap.size w w16)); clear hg hw hp_))
         repeat (go_quiet (first | (go_at_call 77; (with_reducible refine (impl_blocksIn_1.calls x10_1 gx1_0 A1_0 c1_0 l1_0 true _ ?side1 ?side2 ?side3 A6.out).mono ?_); (case side1 => exact cb HR1_0 HB); (case side2 => exact HC1_0.out); (case side3 => (with_reducible repeat (first | refine blk_drewN ?_ _ | refine blk_drew ?_ | refine blk_alloc ?_ _)); exact BK556.out); rintro e w' ⟨rfl, ⟨nd, rfl⟩⟩; (try first | exact ⟨rfl, _, World.drewN_drewN _ _ _⟩ | exact ⟨rfl, _, Eq.trans (World.drewN_drewN _ _ _) (congrArg (World.drewN _) (Nat.add_assoc _ _ _))⟩); obtain ⟨Ao14, co14, eo14⟩ := Kd.R_slice HO_5.out; subst eo14; have p561 : 0 ≤ ((ji9) : Int) := of_decide_eq_true (by first | (with_reducible assumption) | assumption); have q561 : (ji9) < (x5_1.length : Int) := of_decide_eq_true (by first | (with_reducible assumption) | assumption); obtain ⟨ad561, e561, hx561_0, hx561_1⟩ := at_T61 (Kd.R_reads' HO_5.out).2.2 (ji9) p561 q561; cases e561; replace p561 := eq_true p561; replace q561 := eq_true q561; have p562 : 0 ≤ ((ji9) : Int) := of_decide_eq_true (by first | (with_reducible assumption) | assumption); have q562 : (ji9) < (x5_1.length : Int) := of_decide_eq_true (by first | (with_reducible assumption) | assumption); obtain ⟨ad562, e562, hx562_0, hx562_1⟩ := at_T61 (Kd.R_reads' HO_5.out).2.2 (ji9) p562 q562; obtain rfl : ad561 = ad562 := (by injection e562); replace p562 := eq_true p562; replace q562 := eq_true q562; have p563 : 0 ≤ ((ji9) : Int) := of_decide_eq_true (by first | (with_reducible assumption) | assumption); have q563 : (ji9) < (x5_1.length : Int) := of_decide_eq_true (by first | (with_reducible assumption) | assumption); obtain ⟨ad563, e563, hx563_0, hx563_1⟩ := at_T61 (Kd.R_reads' HO_5.out).2.2 (ji9) p563 q563; obtain rfl : ad561 = ad563 := (by injection e563); replace p563 := eq_true p563; replace q563 := eq_true q563; have p13 : 0 ≤ ((ji9) : Int) := of_decide_eq_true (by first | (with_reducible assumption) | assumption); have q13 : ((ji9) : Int) < ((x5_1.length : Int) : Int) := of_decide_eq_true (by first | (with_reducible assumption) | assumption); obtain ⟨go13, co13, eo13, gb13, gl13, cl13, HG13⟩ := Kd.R_form HO_5.out (by omega); (first | cases eo13 | (injection eo13 with ea_ en_ ec_; (first | subst ea_ | (injection ea_ with ea_; subst ea_)); subst ec_; clear en_)); have GB13 := Aside0.mk gb13; have GG13 := Aside0.mk HG13; clear gb13 gl13 HG13; (first | simp only [add_plain] at hx561_0 | skip); (first | simp only [add_plain] at hx561_1 | skip); (first | simp only [add_plain] at hx562_0 | skip); (first | simp only [add_plain] at hx562_1 | skip); (first | simp only [add_plain] at hx563_0 | skip); (first | simp only [add_plain] at hx563_1 | skip); obtain ⟨ce13, hcl13, hM13, hcc13, hfr13⟩ := Kd.R_elem HO_5.out z61 ((ji9) : Int) p13 q13; obtain rfl := k61_openM hM13; have hx13_0 : wr.cell? ⟨go13, ((ji9) : Int).toNat * 2, none⟩ = some (.int .i64 ((rd_T61 x5_1 (ji9)).f0)) := hcc13 0 _ rfl; have hx13_1 : wr.cell? ⟨go13, ((ji9) : Int).toNat * 2 + 1, none⟩ = some (.int .i64 ((rd_T61 x5_1 (ji9)).f1)) := hcc13 1 _ rfl; have hf13_0 : wr.frozen? ⟨go13, ((ji9) : Int).toNat * 2, none⟩ = false := hfr13 0; have hf13_1 : wr.frozen? ⟨go13, ((ji9) : Int).toNat * 2 + 1, none⟩ = false := hfr13 1; clear hcl13 hcc13 hfr13 hM13; replace p13 := eq_true p13; replace q13 := eq_true q13; have HX15 := Aside0.mk (show Kd.R k61 61 wr w.heap.size (fun _ => True) (.slice (some ⟨go13, 0, none⟩) x5_1.length co14) x5_1 from (rr HO_5.out)); obtain ⟨ce15, hcl15, hM15, hcc15, hfr15⟩ := Kd.R_elem HX15.out z61 ((ji9) : Int) (of_decide_eq_true (by first | (with_reducible assumption) | assumption)) (by have h_ : ((ji9) : Int) < ((x5_1.length : Int) : Int) := of_decide_eq_true (by first | (with_reducible assumption) | assumption); first | exact h_ | (have e_ := (Kd.R_reads' HO_5.out).1; omega) | simpa using h_); obtain rfl := k61_openM hM15; have HP15 := Kd.R_seg HX15.out ((ji9) : Int) (of_decide_eq_true (by first | (with_reducible assumption) | assumption)) (by have h_ : ((ji9) : Int) < ((x5_1.length : Int) : Int) := of_decide_eq_true (by first | (with_reducible assumption) | assumption); first | exact h_ | (have e_ := (Kd.R_reads' HO_5.out).1; omega) | simpa using h_) (seg := [.int .i64 (wrap64 (((rd_T61 x5_1 (ji9)).f1) + 1))]) (j := 1) hcl15 hcc15 (show 2 ≤ 2 from by decide) (x' := (⟨(rd_T61 x5_1 (ji9)).f0, wrap64 (((rd_T61 x5_1 (ji9)).f1) + 1)⟩ : S61)) (k61_mkM _ _ _ (⟨(rd_T61 x5_1 (ji9)).f0, wrap64 (((rd_T61 x5_1 (ji9)).f1) + 1)⟩ : S61) ) (fun _ hk => hk); have hx15_1 := hcc15 1 _ rfl; (try simp only [show (k61).sz = 2 from rfl, Nat.mul_one, Nat.add_zero] at hx15_1); have hf15_1 := hfr15 1; (try simp only [show (k61).sz = 2 from rfl, Nat.mul_one, Nat.add_zero] at hf15_1); clear hcl15 hcc15 hfr15 hM15) | ((with_reducible refine gate_store (t := 3) (p := 44) rfl ?_); (try (rw [drewN_self wr]; generalize hq_ : World.drewN wr _ = wr; replace HO_5 := Aside0.mk (Kd.R_at hq_ HO_5.out); replace BK556 := Aside0.mk (blk_at hq_ BK556.out); replace HB := Aside0.mk (below_at hq_ HB.out); clear hq_; (try (have HX15 := Aside0.mk (show Kd.R k61 61 wr w.heap.size (fun _ => True) (.slice (some ⟨go13, 0, none⟩) x5_1.length co14) x5_1 from (rr HO_5.out)))); (try (obtain ⟨ce15, hcl15, hM15, hcc15, hfr15⟩ := Kd.R_elem HX15.out z61 ((ji9) : Int) (of_decide_eq_true (by first | (with_reducible assumption) | assumption)) (by have h_ : ((ji9) : Int) < ((x5_1.length : Int) : Int) := of_decide_eq_true (by first | (with_reducible assumption) | assumption); first | exact h_ | (have e_ := (Kd.R_reads' HO_5.out).1; omega) | simpa using h_))); (try (obtain rfl := k61_openM hM15)); (try (have HP15 := Kd.R_seg HX15.out ((ji9) : Int) (of_decide_eq_true (by first | (with_reducible assumption) | assumption)) (by have h_ : ((ji9) : Int) < ((x5_1.length : Int) : Int) := of_decide_eq_true (by first | (with_reducible assumption) | assumption); first | exact h_ | (have e_ := (Kd.R_reads' HO_5.out).1; omega) | simpa using h_) (seg := [.int .i64 (wrap64 (((rd_T61 x5_1 (ji9)).f1) + 1))]) (j := 1) hcl15 hcc15 (show 2 ≤ 2 from by decide) (x' := (⟨(rd_T61 x5_1 (ji9)).f0, wrap64 (((rd_T61 x5_1 (ji9)).f1) + 1)⟩ : S61)) (k61_mkM _ _ _ (⟨(rd_T61 x5_1 (ji9)).f0, wrap64 (((rd_T61 x5_1 (ji9)).f1) + 1)⟩ : S61) ) (fun _ hk => hk))); (try (have hx15_1 := hcc15 1 _ rfl)); (try (try simp only [show (k61).sz = 2 from rfl, Nat.mul_one, Nat.add_zero] at hx15_1)); (try (have hf15_1 := hfr15 1)); (try (try simp only [show (k61).sz = 2 from rfl, Nat.mul_one, Nat.add_zero] at hf15_1)); (try (clear hcl15 hcc15 hfr15 hM15)))); refine store_event (t := 3) (p := 44) (v := ?vo_w16) (w1 := (wr.setCell ⟨go13, ((ji9) : Int).toNat * 2 + 1, none⟩ (.int .i64 (wrap64 (((rd_T61 x5_1 (ji9)).f1) + 1))))) ?hg ?ho ?hn ?hr ?_; (case ho => rfl); (case hg => rfl); (case hn => rfl); (case hr => first | (go_simp; done) | (go_simp; rfl)); intro w16 hw; have hg : wr.grownBy w16 (some go13) := (by rw [hw]; exact HP15.2); have hp_ : Kd.R k61 61 w16 w.heap.size (fun _ => True) (.slice (some ⟨go13, 0, none⟩) x5_1.length co14) y564 := (by rw [hw, Ny564.out]; exact HP15.1); clear HP15; replace BK556 := Aside0.mk (blk_grown (g := gx1_0) (o := .cells #[.slice A1_0 l1_0.length c1_0] 72 (0, 0)) (bk BK556) hg (Kd.R_ne HO_5.out BK556.out (by decide))); replace HO_5 := Aside0.mk (hp_); replace HB := Aside0.mk ((by rw [hw]; exact below_set (HB.out) GB13.out : Below w.heap.size w w16)); clear hg hw hp_)); try go_wp2_with (first | (go_at_call 77; (with_reducible refine (impl_blocksIn_1.calls x10_1 gx1_0 A1_0 c1_0 l1_0 true _ ?side1 ?side2 ?side3 A6.out).mono ?_); (case side1 => exact cb HR1_0 HB); (case side2 => exact HC1_0.out); (case side3 => (with_reducible repeat (first | refine blk_drewN ?_ _ | refine blk_drew ?_ | refine blk_alloc ?_ _)); exact BK556.out); rintro e w' ⟨rfl, ⟨nd, rfl⟩⟩; (try first | exact ⟨rfl, _, World.drewN_drewN _ _ _⟩ | exact ⟨rfl, _, Eq.trans (World.drewN_drewN _ _ _) (congrArg (World.drewN _) (Nat.add_assoc _ _ _))⟩); obtain ⟨Ao14, co14, eo14⟩ := Kd.R_slice HO_5.out; subst eo14; have p561 : 0 ≤ ((ji9) : Int) := of_decide_eq_true (by first | (with_reducible assumption) | assumption); have q561 : (ji9) < (x5_1.length : Int) := of_decide_eq_true (by first | (with_reducible assumption) | assumption); obtain ⟨ad561, e561, hx561_0, hx561_1⟩ := at_T61 (Kd.R_reads' HO_5.out).2.2 (ji9) p561 q561; cases e561; replace p561 := eq_true p561; replace q561 := eq_true q561; have p562 : 0 ≤ ((ji9) : Int) := of_decide_eq_true (by first | (with_reducible assumption) | assumption); have q562 : (ji9) < (x5_1.length : Int) := of_decide_eq_true (by first | (with_reducible assumption) | assumption); obtain ⟨ad562, e562, hx562_0, hx562_1⟩ := at_T61 (Kd.R_reads' HO_5.out).2.2 (ji9) p562 q562; obtain rfl : ad561 = ad562 := (by injection e562); replace p562 := eq_true p562; replace q562 := eq_true q562; have p563 : 0 ≤ ((ji9) : Int) := of_decide_eq_true (by first | (with_reducible assumption) | assumption); have q563 : (ji9) < (x5_1.length : Int) := of_decide_eq_true (by first | (with_reducible assumption) | assumption); obtain ⟨ad563, e563, hx563_0, hx563_1⟩ := at_T61 (Kd.R_reads' HO_5.out).2.2 (ji9) p563 q563; obtain rfl : ad561 = ad563 := (by injection e563); replace p563 := eq_true p563; replace q563 := eq_true q563; have p13 : 0 ≤ ((ji9) : Int) := of_decide_eq_true (by first | (with_reducible assumption) | assumption); have q13 : ((ji9) : Int) < ((x5_1.length : Int) : Int) := of_decide_eq_true (by first | (with_reducible assumption) | assumption); obtain ⟨go13, co13, eo13, gb13, gl13, cl13, HG13⟩ := Kd.R_form HO_5.out (by omega); (first | cases eo13 | (injection eo13 with ea_ en_ ec_; (first | subst ea_ | (injection ea_ with ea_; subst ea_)); subst ec_; clear en_)); have GB13 := Aside0.mk gb13; have GG13 := Aside0.mk HG13; clear gb13 gl13 HG13; (first | simp only [add_plain] at hx561_0 | skip); (first | simp only [add_plain] at hx561_1 | skip); (first | simp only [add_plain] at hx562_0 | skip); (first | simp only [add_plain] at hx562_1 | skip); (first | simp only [add_plain] at hx563_0 | skip); (first | simp only [add_plain] at hx563_1 | skip); obtain ⟨ce13, hcl13, hM13, hcc13, hfr13⟩ := Kd.R_elem HO_5.out z61 ((ji9) : Int) p13 q13; obtain rfl := k61_openM hM13; have hx13_0 : wr.cell? ⟨go13, ((ji9) : Int).toNat * 2, none⟩ = some (.int .i64 ((rd_T61 x5_1 (ji9)).f0)) := hcc13 0 _ rfl; have hx13_1 : wr.cell? ⟨go13, ((ji9) : Int).toNat * 2 + 1, none⟩ = some (.int .i64 ((rd_T61 x5_1 (ji9)).f1)) := hcc13 1 _ rfl; have hf13_0 : wr.frozen? ⟨go13, ((ji9) : Int).toNat * 2, none⟩ = false := hfr13 0; have hf13_1 : wr.frozen? ⟨go13, ((ji9) : Int).toNat * 2 + 1, none⟩ = false := hfr13 1; clear hcl13 hcc13 hfr13 hM13; replace p13 := eq_true p13; replace q13 := eq_true q13; have HX15 := Aside0.mk (show Kd.R k61 61 wr w.heap.size (fun _ => True) (.slice (some ⟨go13, 0, none⟩) x5_1.length co14) x5_1 from (rr HO_5.out)); obtain ⟨ce15, hcl15, hM15, hcc15, hfr15⟩ := Kd.R_elem HX15.out z61 ((ji9) : Int) (of_decide_eq_true (by first | (with_reducible assumption) | assumption)) (by have h_ : ((ji9) : Int) < ((x5_1.length : Int) : Int) := of_decide_eq_true (by first | (with_reducible assumption) | assumption); first | exact h_ | (have e_ := (Kd.R_reads' HO_5.out).1; omega) | simpa using h_); obtain rfl := k61_openM hM15; have HP15 := Kd.R_seg HX15.out ((ji9) : Int) (of_decide_eq_true (by first | (with_reducible assumption) | assumption)) (by have h_ : ((ji9) : Int) < ((x5_1.length : Int) : Int) := of_decide_eq_true (by first | (with_reducible assumption) | assumption); first | exact h_ | (have e_ := (Kd.R_reads' HO_5.out).1; omega) | simpa using h_) (seg := [.int .i64 (wrap64 (((rd_T61 x5_1 (ji9)).f1) + 1))]) (j := 1) hcl15 hcc15 (show 2 ≤ 2 from by decide) (x' := (⟨(rd_T61 x5_1 (ji9)).f0, wrap64 (((rd_T61 x5_1 (ji9)).f1) + 1)⟩ : S61)) (k61_mkM _ _ _ (⟨(rd_T61 x5_1 (ji9)).f0, wrap64 (((rd_T61 x5_1 (ji9)).f1) + 1)⟩ : S61) ) (fun _ hk => hk); have hx15_1 := hcc15 1 _ rfl; (try simp only [show (k61).sz = 2 from rfl, Nat.mul_one, Nat.add_zero] at hx15_1); have hf15_1 := hfr15 1; (try simp only [show (k61).sz = 2 from rfl, Nat.mul_one, Nat.add_zero] at hf15_1); clear hcl15 hcc15 hfr15 hM15) | ((with_reducible refine gate_store (t := 3) (p := 44) rfl ?_); (try (rw [drewN_self wr]; generalize hq_ : World.drewN wr _ = wr; replace HO_5 := Aside0.mk (Kd.R_at hq_ HO_5.out); replace BK556 := Aside0.mk (blk_at hq_ BK556.out); replace HB := Aside0.mk (below_at hq_ HB.out); clear hq_; (try (have HX15 := Aside0.mk (show Kd.R k61 61 wr w.heap.size (fun _ => True) (.slice (some ⟨go13, 0, none⟩) x5_1.length co14) x5_1 from (rr HO_5.out)))); (try (obtain ⟨ce15, hcl15, hM15, hcc15, hfr15⟩ := Kd.R_elem HX15.out z61 ((ji9) : Int) (of_decide_eq_true (by first | (with_reducible assumption) | assumption)) (by have h_ : ((ji9) : Int) < ((x5_1.length : Int) : Int) := of_decide_eq_true (by first | (with_reducible assumption) | assumption); first | exact h_ | (have e_ := (Kd.R_reads' HO_5.out).1; omega) | simpa using h_))); (try (obtain rfl := k61_openM hM15)); (try (have HP15 := Kd.R_seg HX15.out ((ji9) : Int) (of_decide_eq_true (by first | (with_reducible assumption) | assumption)) (by have h_ : ((ji9) : Int) < ((x5_1.length : Int) : Int) := of_decide_eq_true (by first | (with_reducible assumption) | assumption); first | exact h_ | (have e_ := (Kd.R_reads' HO_5.out).1; omega) | simpa using h_) (seg := [.int .i64 (wrap64 (((rd_T61 x5_1 (ji9)).f1) + 1))]) (j := 1) hcl15 hcc15 (show 2 ≤ 2 from by decide) (x' := (⟨(rd_T61 x5_1 (ji9)).f0, wrap64 (((rd_T61 x5_1 (ji9)).f1) + 1)⟩ : S61)) (k61_mkM _ _ _ (⟨(rd_T61 x5_1 (ji9)).f0, wrap64 (((rd_T61 x5_1 (ji9)).f1) + 1)⟩ : S61) ) (fun _ hk => hk))); (try (have hx15_1 := hcc15 1 _ rfl)); (try (try simp only [show (k61).sz = 2 from rfl, Nat.mul_one, Nat.add_zero] at hx15_1)); (try (have hf15_1 := hfr15 1)); (try (try simp only [show (k61).sz = 2 from rfl, Nat.mul_one, Nat.add_zero] at hf15_1)); (try (clear hcl15 hcc15 hfr15 hM15)))); refine store_event (t := 3) (p := 44) (v := ?vo_w16) (w1 := (wr.setCell ⟨go13, ((ji9) : Int).toNat * 2 + 1, none⟩ (.int .i64 (wrap64 (((rd_T61 x5_1 (ji9)).f1) + 1))))) ?hg ?ho ?hn ?hr ?_; (case ho => rfl); (case hg => rfl); (case hn => rfl); (case hr => first | (go_simp; done) | (go_simp; rfl)); intro w16 hw; have hg : wr.grownBy w16 (some go13) := (by rw [hw]; exact HP15.2); have hp_ : Kd.R k61 61 w16 w.heap.size (fun _ => True) (.slice (some ⟨go13, 0, none⟩) x5_1.length co14) y564 := (by rw [hw, Ny564.out]; exact HP15.1); clear HP15; replace BK556 := Aside0.mk (blk_grown (g := gx1_0) (o := .cells #[.slice A1_0 l1_0.length c1_0] 72 (0, 0)) (bk BK556) hg (Kd.R_ne HO_5.out BK556.out (by decide))); replace HO_5 := Aside0.mk (hp_); replace HB := Aside0.mk ((by rw [hw]; exact below_set (HB.out) GB13.out : Below w.heap.size w w16)); clear hg hw hp_)))
         go_roundg k1
         case measure => have := HK1.out; omega
         case rel => exact ⟨(y564), (wrap64 (x10_1 + 1)), (by first | rfl | (simp; done) | (simp [*]; done)), H', ⟨by have := HK1.out; omega⟩, ⟨rr HO_5.out⟩, ⟨bk BK556⟩, ⟨bs HB⟩⟩
        ·
         rw [if_neg c12] at H
         have c12b0 : ((wrap64 (((rd_T61 x5_1 (ji9)).f0) + ((rd_T61 x5_1 (ji9)).f1))) == x10_1) = false := beq_eq_false_iff_ne.mpr c12
         have c12b1 : ((wrap64 (((rd_T61 x5_1 (ji9)).f0) + ((rd_T61 x5_1 (ji9)).f1))) != x10_1) = true := bne_iff_ne.mpr c12
         by_cases c17 : x5_1.length < 8796093022208
         ·
          rw [if_pos c17] at H
          have LMc17 := Aside0.mk c17
          clear c17
          obtain ⟨y565, hy565⟩ : ∃ y_ : List (S61), y_ = (x5_1 ++ [(⟨x10_1, 1⟩ : S61)]) := ⟨_, rfl⟩
          replace H : (impl_merged_at_impl_blocksIn_1.l0 k1 y565 a0 (wrap64 (x10_1 + 1)) l1_0) = some r := by first | (rw [hy565]; with_reducible exact H) | (have H2_ := (Option.bind_some _ _).symm.trans H; rw [hy565]; with_reducible exact H2_) | (have H2_ := (Option.bind_some _ _).symm.trans H; with_reducible exact H2_) | with_reducible exact H | (rw [hy565]; exact H) | exact H
          have Ny565 := Aside0.mk hy565
          clear hy565
          have H' := Aside0.mk H
          clear H
          go_wp2_with (first | (go_at_call 77; (with_reducible refine (impl_blocksIn_1.calls x10_1 gx1_0 A1_0 c1_0 l1_0 true _ ?side1 ?side2 ?side3 A6.out).mono ?_); (case side1 => exact cb HR1_0 HB); (case side2 => exact HC1_0.out); (case side3 => (with_reducible repeat (first | refine blk_drewN ?_ _ | refine blk_drew ?_ | refine blk_alloc ?_ _)); exact BK556.out); rintro e w' ⟨rfl, ⟨nd, rfl⟩⟩; (try first | exact ⟨rfl, _, World.drewN_drewN _ _ _⟩ | exact ⟨rfl, _, Eq.trans (World.drewN_drewN _ _ _) (congrArg (World.drewN _) (Nat.add_assoc _ _ _))⟩); obtain ⟨Ao18, co18, eo18⟩ := Kd.R_slice HO_5.out; subst eo18; have p561 : 0 ≤ ((ji9) : Int) := of_decide_eq_true (by first | (with_reducible assumption) | assumption); have q561 : (ji9) < (x5_1.length : Int) := of_decide_eq_true (by first | (with_reducible assumption) | assumption); obtain ⟨ad561, e561, hx561_0, hx561_1⟩ := at_T61 (Kd.R_reads' HO_5.out).2.2 (ji9) p561 q561; cases e561; replace p561 := eq_true p561; replace q561 := eq_true q561; have p562 : 0 ≤ ((ji9) : Int) := of_decide_eq_true (by first | (with_reducible assumption) | assumption); have q562 : (ji9) < (x5_1.length : Int) := of_decide_eq_true (by first | (with_reducible assumption) | assumption); obtain ⟨ad562, e562, hx562_0, hx562_1⟩ := at_T61 (Kd.R_reads' HO_5.out).2.2 (ji9) p562 q562; obtain rfl : ad561 = ad562 := (by injection e562); replace p562 := eq_true p562; replace q562 := eq_true q562) | ((with_reducible refine gate_builtin (b := .append) (xs := #[.tmp 45, .tmp 48]) rfl ?_); at_builtin; refine Kd.R_append k61 (w0 := w) w.heap.size rfl (.tmp 45) (.tmp 48) 38 61 (.agg #[(.int .i64 0), (.int .i64 0)]) 16 rfl Try.underlying38 info61 rfl (by decide) (by omega) (.slice (some ad561) x5_1.length co18) x5_1 (⟨x10_1, 1⟩ : S61) [.int .i64 x10_1, .int .i64 1] (fun _ => True) (fun _ => False) rfl rfl ?aP (fun _ hk => hk.elim) ?aF ?aO ?aB ?aS ?aL ?_; (case aP => exact k61_mkM _ _ _ (⟨x10_1, 1⟩ : S61)); (case aB => exact (bs HB)); (case aF => exact (fun _ _ => trivial)); (case aO => exact (rr HO_5.out)); (case aS => exact (below_size (bs HB))); (case aL => have := LMc17.out; omega); intro v566 w19 ho hb hg hat; rw [← Ny565.out] at ho; replace BK556 := Aside0.mk (blk_grown (g := gx1_0) (o := .cells #[.slice A1_0 l1_0.length c1_0] 72 (0, 0)) (bk BK556) hg (Kd.R_ne HO_5.out BK556.out (by decide))); replace HB := Aside0.mk (hb); have HO567 := Aside0.mk (ho); clear HO_5; clear ho hb hg hat))
          repeat (go_quiet (first | (go_at_call 77; (with_reducible refine (impl_blocksIn_1.calls x10_1 gx1_0 A1_0 c1_0 l1_0 true _ ?side1 ?side2 ?side3 A6.out).mono ?_); (case side1 => exact cb HR1_0 HB); (case side2 => exact HC1_0.out); (case side3 => (with_reducible repeat (first | refine blk_drewN ?_ _ | refine blk_drew ?_ | refine blk_alloc ?_ _)); exact BK556.out); rintro e w' ⟨rfl, ⟨nd, rfl⟩⟩; (try first | exact ⟨rfl, _, World.drewN_drewN _ _ _⟩ | exact ⟨rfl, _, Eq.trans (World.drewN_drewN _ _ _) (congrArg (World.drewN _) (Nat.add_assoc _ _ _))⟩); obtain ⟨Ao18, co18, eo18⟩ := Kd.R_slice HO_5.out; subst eo18; have p561 : 0 ≤ ((ji9) : Int) := of_decide_eq_true (by first | (with_reducible assumption) | assumption); have q561 : (ji9) < (x5_1.length : Int) := of_decide_eq_true (by first | (with_reducible assumption) | assumption); obtain ⟨ad561, e561, hx561_0, hx561_1⟩ := at_T61 (Kd.R_reads' HO_5.out).2.2 (ji9) p561 q561; cases e561; replace p561 := eq_true p561; replace q561 := eq_true q561; have p562 : 0 ≤ ((ji9) : Int) := of_decide_eq_true (by first | (with_reducible assumption) | assumption); have q562 : (ji9) < (x5_1.length : Int) := of_decide_eq_true (by first | (with_reducible assumption) | assumption); obtain ⟨ad562, e562, hx562_0, hx562_1⟩ := at_T61 (Kd.R_reads' HO_5.out).2.2 (ji9) p562 q562; obtain rfl : ad561 = ad562 := (by injection e562); replace p562 := eq_true p562; replace q562 := eq_true q562) | ((with_reducible refine gate_builtin (b := .append) (xs := #[.tmp 45, .tmp 48]) rfl ?_); at_builtin; refine Kd.R_append k61 (w0 := w) w.heap.size rfl (.tmp 45) (.tmp 48) 38 61 (.agg #[(.int .i64 0), (.int .i64 0)]) 16 rfl Try.underlying38 info61 rfl (by decide) (by omega) (.slice (some ad561) x5_1.length co18) x5_1 (⟨x10_1, 1⟩ : S61) [.int .i64 x10_1, .int .i64 1] (fun _ => True) (fun _ => False) rfl rfl ?aP (fun _ hk => hk.elim) ?aF ?aO ?aB ?aS ?aL ?_; (case aP => exact k61_mkM _ _ _ (⟨x10_1, 1⟩ : S61)); (case aB => exact (bs HB)); (case aF => exact (fun _ _ => trivial)); (case aO => exact (rr HO_5.out)); (case aS => exact (below_size (bs HB))); (case aL => have := LMc17.out; omega); intro v566 w19 ho hb hg hat; rw [← Ny565.out] at ho; replace BK556 := Aside0.mk (blk_grown (g := gx1_0) (o := .cells #[.slice A1_0 l1_0.length c1_0] 72 (0, 0)) (bk BK556) hg (Kd.R_ne HO_5.out BK556.out (by decide))); replace HB := Aside0.mk (hb); have HO567 := Aside0.mk (ho); clear HO_5; clear ho hb hg hat)); try go_wp2_with (first | (go_at_call 77; (with_reducible refine (impl_blocksIn_1.calls x10_1 gx1_0 A1_0 c1_0 l1_0 true _ ?side1 ?side2 ?side3 A6.out).mono ?_); (case side1 => exact cb HR1_0 HB); (case side2 => exact HC1_0.out); (case side3 => (with_reducible repeat (first | refine blk_drewN ?_ _ | refine blk_drew ?_ | refine blk_alloc ?_ _)); exact BK556.out); rintro e w' ⟨rfl, ⟨nd, rfl⟩⟩; (try first | exact ⟨rfl, _, World.drewN_drewN _ _ _⟩ | exact ⟨rfl, _, Eq.trans (World.drewN_drewN _ _ _) (congrArg (World.drewN _) (Nat.add_assoc _ _ _))⟩); obtain ⟨Ao18, co18, eo18⟩ := Kd.R_slice HO_5.out; subst eo18; have p561 : 0 ≤ ((ji9) : Int) := of_decide_eq_true (by first | (with_reducible assumption) | assumption); have q561 : (ji9) < (x5_1.length : Int) := of_decide_eq_true (by first | (with_reducible assumption) | assumption); obtain ⟨ad561, e561, hx561_0, hx561_1⟩ := at_T61 (Kd.R_reads' HO_5.out).2.2 (ji9) p561 q561; cases e561; replace p561 := eq_true p561; replace q561 := eq_true q561; have p562 : 0 ≤ ((ji9) : Int) := of_decide_eq_true (by first | (with_reducible assumption) | assumption); have q562 : (ji9) < (x5_1.length : Int) := of_decide_eq_true (by first | (with_reducible assumption) | assumption); obtain ⟨ad562, e562, hx562_0, hx562_1⟩ := at_T61 (Kd.R_reads' HO_5.out).2.2 (ji9) p562 q562; obtain rfl : ad561 = ad562 := (by injection e562); replace p562 := eq_true p562; replace q562 := eq_true q562) | ((with_reducible refine gate_builtin (b := .append) (xs := #[.tmp 45, .tmp 48]) rfl ?_); at_builtin; refine Kd.R_append k61 (w0 := w) w.heap.size rfl (.tmp 45) (.tmp 48) 38 61 (.agg #[(.int .i64 0), (.int .i64 0)]) 16 rfl Try.underlying38 info61 rfl (by decide) (by omega) (.slice (some ad561) x5_1.length co18) x5_1 (⟨x10_1, 1⟩ : S61) [.int .i64 x10_1, .int .i64 1] (fun _ => True) (fun _ => False) rfl rfl ?aP (fun _ hk => hk.elim) ?aF ?aO ?aB ?aS ?aL ?_; (case aP => exact k61_mkM _ _ _ (⟨x10_1, 1⟩ : S61)); (case aB => exact (bs HB)); (case aF => exact (fun _ _ => trivial)); (case aO => exact (rr HO_5.out)); (case aS => exact (below_size (bs HB))); (case aL => have := LMc17.out; omega); intro v566 w19 ho hb hg hat; rw [← Ny565.out] at ho; replace BK556 := Aside0.mk (blk_grown (g := gx1_0) (o := .cells #[.slice A1_0 l1_0.length c1_0] 72 (0, 0)) (bk BK556) hg (Kd.R_ne HO_5.out BK556.out (by decide))); replace HB := Aside0.mk (hb); have HO567 := Aside0.mk (ho); clear HO_5; clear ho hb hg hat)))
          go_roundg k1
          case measure => have := HK1.out; omega
          case rel => exact ⟨(y565), (wrap64 (x10_1 + 1)), (by first | rfl | (simp; done) | (simp [*]; done)), H', ⟨by have := HK1.out; omega⟩, ⟨rr HO567.out⟩, ⟨bk BK556⟩, ⟨bs HB⟩⟩
         ·
          rw [if_neg c17] at H
          exact absurd H (by simp)
       ·
        rw [if_neg c11] at H
        exact absurd H (by simp)
      ·
       rw [if_neg c10] at H
       exact absurd H (by simp)
     ·
      rw [if_neg c8] at H
      have c8b0 : decide (0 ≤ (wrap64 ((x5_1.length : Int) - 1))) = false := decide_eq_false c8
      clear c8
      by_cases c20 : x5_1.length < 8796093022208
      ·
       rw [if_pos c20] at H
       have LMc20 := Aside0.mk c20
       clear c20
       obtain ⟨y568, hy568⟩ : ∃ y_ : List (S61), y_ = (x5_1 ++ [(⟨x10_1, 1⟩ : S61)]) := ⟨_, rfl⟩
       replace H : (impl_merged_at_impl_blocksIn_1.l0 k1 y568 a0 (wrap64 (x10_1 + 1)) l1_0) = some r := by first | (rw [hy568]; with_reducible exact H) | (have H2_ := (Option.bind_some _ _).symm.trans H; rw [hy568]; with_reducible exact H2_) | (have H2_ := (Option.bind_some _ _).symm.trans H; with_reducible exact H2_) | with_reducible exact H | (rw [hy568]; exact H) | exact H
       have Ny568 := Aside0.mk hy568
       clear hy568
       have H' := Aside0.mk H
       clear H
       go_wp2_with (first | (go_at_call 77; (with_reducible refine (impl_blocksIn_1.calls x10_1 gx1_0 A1_0 c1_0 l1_0 true _ ?side1 ?side2 ?side3 A6.out).mono ?_); (case side1 => exact cb HR1_0 HB); (case side2 => exact HC1_0.out); (case side3 => (with_reducible repeat (first | refine blk_drewN ?_ _ | refine blk_drew ?_ | refine blk_alloc ?_ _)); exact BK556.out); rintro e w' ⟨rfl, ⟨nd, rfl⟩⟩; (try first | exact ⟨rfl, _, World.drewN_drewN _ _ _⟩ | exact ⟨rfl, _, Eq.trans (World.drewN_drewN _ _ _) (congrArg (World.drewN _) (Nat.add_assoc _ _ _))⟩); obtain ⟨Ao21, co21, eo21⟩ := Kd.R_slice HO_5.out; subst eo21) | ((with_reducible refine gate_builtin (b := .append) (xs := #[.tmp 45, .tmp 48]) rfl ?_); at_builtin; refine Kd.R_append k61 (w0 := w) w.heap.size rfl (.tmp 45) (.tmp 48) 38 61 (.agg #[(.int .i64 0), (.int .i64 0)]) 16 rfl Try.underlying38 info61 rfl (by decide) (by omega) (.slice Ao21 x5_1.length co21) x5_1 (⟨x10_1, 1⟩ : S61) [.int .i64 x10_1, .int .i64 1] (fun _ => True) (fun _ => False) rfl rfl ?aP (fun _ hk => hk.elim) ?aF ?aO ?aB ?aS ?aL ?_; (case aP => exact k61_mkM _ _ _ (⟨x10_1, 1⟩ : S61)); (case aB => exact (bs HB)); (case aF => exact (fun _ _ => trivial)); (case aO => exact (rr HO_5.out)); (case aS => exact (below_size (bs HB))); (case aL => have := LMc20.out; omega); intro v569 w22 ho hb hg hat; rw [← Ny568.out] at ho; replace BK556 := Aside0.mk (blk_grown (g := gx1_0) (o := .cells #[.slice A1_0 l1_0.length c1_0] 72 (0, 0)) (bk BK556) hg (Kd.R_ne HO_5.out BK556.out (by decide))); replace HB := Aside0.mk (hb); have HO570 := Aside0.mk (ho); clear HO_5; clear ho hb hg hat))
       repeat (go_quiet (first | (go_at_call 77; (with_reducible refine (impl_blocksIn_1.calls x10_1 gx1_0 A1_0 c1_0 l1_0 true _ ?side1 ?side2 ?side3 A6.out).mono ?_); (case side1 => exact cb HR1_0 HB); (case side2 => exact HC1_0.out); (case side3 => (with_reducible repeat (first | refine blk_drewN ?_ _ | refine blk_drew ?_ | refine blk_alloc ?_ _)); exact BK556.out); rintro e w' ⟨rfl, ⟨nd, rfl⟩⟩; (try first | exact ⟨rfl, _, World.drewN_drewN _ _ _⟩ | exact ⟨rfl, _, Eq.trans (World.drewN_drewN _ _ _) (congrArg (World.drewN _) (Nat.add_assoc _ _ _))⟩); obtain ⟨Ao21, co21, eo21⟩ := Kd.R_slice HO_5.out; subst eo21) | ((with_reducible refine gate_builtin (b := .append) (xs := #[.tmp 45, .tmp 48]) rfl ?_); at_builtin; refine Kd.R_append k61 (w0 := w) w.heap.size rfl (.tmp 45) (.tmp 48) 38 61 (.agg #[(.int .i64 0), (.int .i64 0)]) 16 rfl Try.underlying38 info61 rfl (by decide) (by omega) (.slice Ao21 x5_1.length co21) x5_1 (⟨x10_1, 1⟩ : S61) [.int .i64 x10_1, .int .i64 1] (fun _ => True) (fun _ => False) rfl rfl ?aP (fun _ hk => hk.elim) ?aF ?aO ?aB ?aS ?aL ?_; (case aP => exact k61_mkM _ _ _ (⟨x10_1, 1⟩ : S61)); (case aB => exact (bs HB)); (case aF => exact (fun _ _ => trivial)); (case aO => exact (rr HO_5.out)); (case aS => exact (below_size (bs HB))); (case aL => have := LMc20.out; omega); intro v569 w22 ho hb hg hat; rw [← Ny568.out] at ho; replace BK556 := Aside0.mk (blk_grown (g := gx1_0) (o := .cells #[.slice A1_0 l1_0.length c1_0] 72 (0, 0)) (bk BK556) hg (Kd.R_ne HO_5.out BK556.out (by decide))); replace HB := Aside0.mk (hb); have HO570 := Aside0.mk (ho); clear HO_5; clear ho hb hg hat)); try go_wp2_with (first | (go_at_call 77; (with_reducible refine (impl_blocksIn_1.calls x10_1 gx1_0 A1_0 c1_0 l1_0 true _ ?side1 ?side2 ?side3 A6.out).mono ?_); (case side1 => exact cb HR1_0 HB); (case side2 => exact HC1_0.out); (case side3 => (with_reducible repeat (first | refine blk_drewN ?_ _ | refine blk_drew ?_ | refine blk_alloc ?_ _)); exact BK556.out); rintro e w' ⟨rfl, ⟨nd, rfl⟩⟩; (try first | exact ⟨rfl, _, World.drewN_drewN _ _ _⟩ | exact ⟨rfl, _, Eq.trans (World.drewN_drewN _ _ _) (congrArg (World.drewN _) (Nat.add_assoc _ _ _))⟩); obtain ⟨Ao21, co21, eo21⟩ := Kd.R_slice HO_5.out; subst eo21) | ((with_reducible refine gate_builtin (b := .append) (xs := #[.tmp 45, .tmp 48]) rfl ?_); at_builtin; refine Kd.R_append k61 (w0 := w) w.heap.size rfl (.tmp 45) (.tmp 48) 38 61 (.agg #[(.int .i64 0), (.int .i64 0)]) 16 rfl Try.underlying38 info61 rfl (by decide) (by omega) (.slice Ao21 x5_1.length co21) x5_1 (⟨x10_1, 1⟩ : S61) [.int .i64 x10_1, .int .i64 1] (fun _ => True) (fun _ => False) rfl rfl ?aP (fun _ hk => hk.elim) ?aF ?aO ?aB ?aS ?aL ?_; (case aP => exact k61_mkM _ _ _ (⟨x10_1, 1⟩ : S61)); (case aB => exact (bs HB)); (case aF => exact (fun _ _ => trivial)); (case aO => exact (rr HO_5.out)); (case aS => exact (below_size (bs HB))); (case aL => have := LMc20.out; omega); intro v569 w22 ho hb hg hat; rw [← Ny568.out] at ho; replace BK556 := Aside0.mk (blk_grown (g := gx1_0) (o := .cells #[.slice A1_0 l1_0.length c1_0] 72 (0, 0)) (bk BK556) hg (Kd.R_ne HO_5.out BK556.out (by decide))); replace HB := Aside0.mk (hb); have HO570 := Aside0.mk (ho); clear HO_5; clear ho hb hg hat)))
       go_roundg k1
       case measure => have := HK1.out; omega
       case rel => exact ⟨(y568), (wrap64 (x10_1 + 1)), (by first | rfl | (simp; done) | (simp [*]; done)), H', ⟨by have := HK1.out; omega⟩, ⟨rr HO570.out⟩, ⟨bk BK556⟩, ⟨bs HB⟩⟩
      ·
       rw [if_neg c20] at H
       exact absurd H (by simp)
    ·
     replace c7 := Bool.eq_false_iff.mpr c7
     subst c7
     rw [if_neg (show ¬ (false = true) by decide)] at H
     have H' := Aside0.mk H
     clear H
     go_wp2_with (first | (go_at_call 77; (with_reducible refine (impl_blocksIn_1.calls x10_1 gx1_0 A1_0 c1_0 l1_0 false _ ?side1 ?side2 ?side3 A6.out).mono ?_); (case side1 => exact cb HR1_0 HB); (case side2 => exact HC1_0.out); (case side3 => (with_reducible repeat (first | refine blk_drewN ?_ _ | refine blk_drew ?_ | refine blk_alloc ?_ _)); exact BK556.out); rintro e w' ⟨rfl, ⟨nd, rfl⟩⟩; (try first | exact ⟨rfl, _, World.drewN_drewN _ _ _⟩ | exact ⟨rfl, _, Eq.trans (World.drewN_drewN _ _ _) (congrArg (World.drewN _) (Nat.add_assoc _ _ _))⟩)))
     repeat (go_quiet (first | (go_at_call 77; (with_reducible refine (impl_blocksIn_1.calls x10_1 gx1_0 A1_0 c1_0 l1_0 false _ ?side1 ?side2 ?side3 A6.out).mono ?_); (case side1 => exact cb HR1_0 HB); (case side2 => exact HC1_0.out); (case side3 => (with_reducible repeat (first | refine blk_drewN ?_ _ | refine blk_drew ?_ | refine blk_alloc ?_ _)); exact BK556.out); rintro e w' ⟨rfl, ⟨nd, rfl⟩⟩; (try first | exact ⟨rfl, _, World.drewN_drewN _ _ _⟩ | exact ⟨rfl, _, Eq.trans (World.drewN_drewN _ _ _) (congrArg (World.drewN _) (Nat.add_assoc _ _ _))⟩))); try go_wp2_with (first | (go_at_call 77; (with_reducible refine (impl_blocksIn_1.calls x10_1 gx1_0 A1_0 c1_0 l1_0 false _ ?side1 ?side2 ?side3 A6.out).mono ?_); (case side1 => exact cb HR1_0 HB); (case side2 => exact HC1_0.out); (case side3 => (with_reducible repeat (first | refine blk_drewN ?_ _ | refine blk_drew ?_ | refine blk_alloc ?_ _)); exact BK556.out); rintro e w' ⟨rfl, ⟨nd, rfl⟩⟩; (try first | exact ⟨rfl, _, World.drewN_drewN _ _ _⟩ | exact ⟨rfl, _, Eq.trans (World.drewN_drewN _ _ _) (congrArg (World.drewN _) (Nat.add_assoc _ _ _))⟩))))
     go_roundg k1
     case measure => have := HK1.out; omega
     case rel => exact ⟨(x5_1), (wrap64 (x10_1 + 1)), (by first | rfl | (simp; done) | (simp [*]; done)), H', ⟨by have := HK1.out; omega⟩, ⟨rr HO_5.out⟩, ⟨bk BK556⟩, ⟨bs HB⟩⟩
   ·
    rw [if_neg c5] at H
    have c5b0 : decide (x10_1 < a0) = false := decide_eq_false c5
    clear c5
    obtain rfl := Option.some.inj H
    go_wp2
    repeat (go_quiet (fail); try go_wp2)
    go_ret
    exact ⟨_, by first | rfl | (simp [errW_none, errW_some] <;> rfl) | (simp [*, errW_none, errW_some] <;> rfl), by (with_reducible repeat (first | apply Kd.R_alloc | apply Kd.R_drewN | apply Kd.R_drew)); exact HO_5.out, bs HB⟩

/-! ### impl_blocksIn: function 67 -/
def impl_blocksIn.l0 : Nat → List (S78) → Int → Int → List Bool → Option ((List (S61)))
 | 0, _, _, _, _ => none
 | k + 1, x7, x8, x9, x575000 => if x9 < x8 then (if 0 ≤ x9 then (if x9 < (x7.length : Int) then (if (rd_T78 x7 x9).f0 = true then (if 0 ≤ ((rd_T78 x7 x9).f1) then (if ((rd_T78 x7 x9).f1) < (x575000.length : Int) then (impl_blocksIn.l0 k x7 x8 (wrap64 (x9 + 1)) (x575000.set (((rd_T78 x7 x9).f1) : Int).toNat true)) else (none)) else (none)) else (impl_blocksIn.l0 k x7 x8 (wrap64 (x9 + 1)) x575000)) else (none)) else (none)) else ((impl_merged_at_impl_blocksIn_1.f k 400 x575000).bind fun t578 => (some t578))
def impl_blocksIn.f (k : Nat) (l0 : List (S78)) : Option ((List (S61))) := if 400 ≤ 281474976710656 then (impl_blocksIn.l0 k l0 (l0.length : Int) 0 (List.replicate 400 false)) else (none)
theorem impl_blocksIn.mono_l : ∀ k, (∀ y0 y1 y2 y3, LeO (impl_blocksIn.l0 k y0 y1 y2 y3) (impl_blocksIn.l0 (k + 1) y0 y1 y2 y3))
 | 0 => fun _ _ _ _ r h => by simp [impl_blocksIn.l0] at h
 | k + 1 => by
  have ih0 := impl_blocksIn.mono_l k
  ·
   intro y0 y1 y2 y3
   unfold impl_blocksIn.l0
   repeat' first
   | (with_reducible exact ih0 _ _ _ _)
   | (with_reducible exact impl_merged_at_impl_blocksIn_1.mono _ _ _)
   | (with_reducible exact LeO.refl _)
   | (with_reducible exact LeO.none _)
   | (with_reducible refine LeO.ite ?_ ?_)
   | (with_reducible refine LeO.bind ?_ (fun _ => ?_))
   | exact ih0 _ _ _ _
   | exact impl_merged_at_impl_blocksIn_1.mono _ _ _
   | exact LeO.none _
   | refine LeO.ite ?_ ?_
   | refine LeO.bind ?_ (fun _ => ?_)
theorem impl_blocksIn.mono : ∀ a0 k, LeO (impl_blocksIn.f k a0) (impl_blocksIn.f (k + 1) a0) := by
 intro a0 k
 have ih0 := impl_blocksIn.mono_l k
 unfold impl_blocksIn.f
 repeat' first
   | (with_reducible exact ih0 _ _ _ _)
   | (with_reducible exact impl_merged_at_impl_blocksIn_1.mono _ _ _)
   | (with_reducible exact LeO.refl _)
   | (with_reducible exact LeO.none _)
   | (with_reducible refine LeO.ite ?_ ?_)
   | (with_reducible refine LeO.bind ?_ (fun _ => ?_))
   | exact ih0 _ _ _ _
   | exact impl_merged_at_impl_blocksIn_1.mono _ _ _
   | exact LeO.none _
   | refine LeO.ite ?_ ?_
   | refine LeO.bind ?_ (fun _ => ?_)
set_option maxHeartbeats 8000000 in
set_option maxRecDepth 100000 in
theorem impl_blocksIn.calls (k : Nat) (A0 : Option Addr) (c0 : Nat) (l0 : List (S78)) (r : List (S61)) (w : World) (hr0 : Kd.C k78 w A0 l0.length l0) (hc0 : l0.length ≤ c0) (h : impl_blocksIn.f k l0 = some r) :
  Calls Try.prog 67 #[.slice A0 l0.length c0] w fun e w' => ∃ v0_ : Value, e = .returned (v0_) ∧ Kd.R k61 61 w' w.heap.size (fun _ => True) v0_ r ∧ Below w.heap.size w w' := by
 have hu78 := Try.underlying78
 have HR0 := Aside0.mk hr0
 have HC0 := Aside0.mk hc0
 clear hr0 hc0
 have HB := Aside0.mk (Below.refl w.heap.size w)
 have H : (if 400 ≤ 281474976710656 then (impl_blocksIn.l0 k l0 (l0.length : Int) 0 (List.replicate 400 false)) else (none)) = some r := h
 clear h
 by_cases c2 : 400 ≤ 281474976710656
 ·
  rw [if_pos c2] at H
  have c2b0 := eq_true c2
  have c2b1 : decide (400 ≤ 281474976710656) = true := decide_eq_true c2
  clear c2
  obtain ⟨y571, hy571⟩ : ∃ y_ : List Bool, y_ = (List.replicate 400 false) := ⟨_, rfl⟩
  replace H : (impl_blocksIn.l0 k l0 (l0.length : Int) 0 y571) = some r := by first | (rw [hy571]; with_reducible exact H) | (have H2_ := (Option.bind_some _ _).symm.trans H; rw [hy571]; with_reducible exact H2_) | (have H2_ := (Option.bind_some _ _).symm.trans H; with_reducible exact H2_) | with_reducible exact H | (rw [hy571]; exact H) | exact H
  have Ny571 := Aside0.mk hy571
  clear hy571
  have H' := Aside0.mk H
  clear H
  go_enter Try.func67, Try.ntmps67
  go_wp2_with (first | ((with_reducible refine gate_dst (N := 6) rfl ?_); refine Kd.R_make Kd.bool _ 4 rfl (N := 6) rfl 72 _ _ rfl 400 rfl rfl Try.underlying72 (.bool false) 1 info4 rfl (by decide) (by omega) false (ok := fun _ => True) (okp := fun _ => True) rfl (fun _ hk => hk) trivial (by omega) (by omega) (Below.refl _ _) (Nat.le_refl _) ?_; intro v572 w3 ho4 hb hg_ hnew_; clear hg_ hnew_; (first | rw [← Ny571.out] at ho4 | (simp only [Int.reduceToNat] at ho4; rw [← Ny571.out] at ho4)); have HO573 := Aside0.mk (Kd.R_lower ho4 (below_size (bs HB))); replace HB := Aside0.mk (below_step (bs HB) hb); clear hb ho4) | ((with_reducible refine gate_dst (N := 3) rfl ?_); refine box_event ?hg (N := 3) ?hd (cs := #[.slice none 0 0]) (t := 72) ?hr ?_; (case hd => rfl); (case hg => rfl); (case hr => first | (go_simp; done) | (go_simp; rfl)); intro gb574 hg w5 hbox hb; replace HO573 := nr HO573 hb; have BK574 := Aside0.mk (hbox); have GW574 := Aside0.mk ((by rw [hg]; exact (below_size (bs HB)) : w.heap.size ≤ gb574)); have GE574 := Aside0.mk ((by rw [hg]; exact (below_size (bs HB)) : w.heap.size ≤ gb574)); replace HB := Aside0.mk (below_step (bs HB) hb); clear hb hbox hg; obtain ⟨Ao6, co6, eo6⟩ := Kd.R_slice HO573.out; subst eo6; have hcz7_0 := cz1 BK574; have hfz7_0 := fz1 BK574))
  go_loopg [9] k (fun kq v9 w' => ∃ (x9_1 : Int) (x575000_1 : List Bool) (u575000 : Value), v9 = .int .i64 x9_1 ∧ Aside0 (impl_blocksIn.l0 kq l0 (l0.length : Int) x9_1 x575000_1 = some r) ∧ Aside0 (kq ≤ k) ∧ Aside0 (Kd.R Kd.bool 4 w' w.heap.size (fun _ => True) u575000 x575000_1) ∧ Aside0 (w'.heap[gb574]? = some (.cells #[u575000] 72 (0, 0))) ∧ Aside0 (Below w.heap.size w w'))
  case atStart => exact ⟨(0), (y571), (.slice Ao6 y571.length co6), (by first | rfl | (simp; done) | (simp [*]; done)), H', ⟨Nat.le_refl _⟩, ⟨by (with_reducible repeat (first | apply Kd.R_alloc | apply Kd.R_drewN | apply Kd.R_drew)); exact Kd.R_mono (Kd.R_far (p := ⟨gb574, 0, none⟩) (Kd.R_types HO573.out BK574.out (by decide)) (fun _ hk => hk.2) (.slice Ao6 y571.length co6)) (fun _ hk => trivial)⟩, ⟨by (with_reducible repeat (first | refine blk_drewN ?_ _ | refine blk_drew ?_ | refine blk_alloc ?_ _)); refine blk_put (cs := #[.slice none 0 0]) ?_ 0 _ rfl; (with_reducible repeat (first | refine blk_drewN ?_ _ | refine blk_drew ?_ | refine blk_alloc ?_ _)); exact BK574.out⟩, ⟨bs1 HB GE574⟩⟩
  case round =>
   clear H'
   try clear c2
   try clear c2b0
   try clear c2b1
   try clear p2
   try clear c6
   try clear hcz7_0
   try clear hfz7_0
   obtain ⟨x9_1, x575000_1, u575000, rfl, HA, HK1, HO_575000, BK574, HB⟩ := hrel
   cases gk with
   | zero => exact absurd HA.out (by simp [impl_blocksIn.l0])
   | succ k1 =>
    have H := HA.out
    clear HA
    simp only [impl_blocksIn.l0] at H
    by_cases c8 : x9_1 < (l0.length : Int)
    ·
     rw [if_pos c8] at H
     have c8b0 : decide (x9_1 < (l0.length : Int)) = true := decide_eq_true c8
     clear c8
     by_cases c9 : 0 ≤ x9_1
     ·
      rw [if_pos c9] at H
      have c9b0 : decide (0 ≤ x9_1) = true := decide_eq_true c9
      clear c9
      by_cases c10 : x9_1 < (l0.length : Int)
      ·
       rw [if_pos c10] at H
       have c10b0 : decide (x9_1 < (l0.length : Int)) = true := decide_eq_true c10
       clear c10
       obtain ⟨bq11, hbq11⟩ : ∃ b_ : Bool, b_ = ((rd_T78 l0 x9_1).f0) := ⟨_, rfl⟩
       replace H : (if bq11 = true then (if 0 ≤ ((rd_T78 l0 x9_1).f1) then (if ((rd_T78 l0 x9_1).f1) < (x575000_1.length : Int) then (impl_blocksIn.l0 k1 l0 (l0.length : Int) (wrap64 (x9_1 + 1)) (x575000_1.set (((rd_T78 l0 x9_1).f1) : Int).toNat true)) else (none)) else (none)) else (impl_blocksIn.l0 k1 l0 (l0.length : Int) (wrap64 (x9_1 + 1)) x575000_1)) = some r := by rw [← hbq11] at H; exact H
       have Nbq11 := Aside0.mk hbq11
       clear hbq11
       by_cases c12 : bq11 = true
       ·
        subst c12
        rw [if_pos rfl] at H
        by_cases c13 : 0 ≤ ((rd_T78 l0 x9_1).f1)
        ·
         rw [if_pos c13] at H
         have c13b0 : decide (0 ≤ ((rd_T78 l0 x9_1).f1)) = true := decide_eq_true c13
         clear c13
         by_cases c14 : ((rd_T78 l0 x9_1).f1) < (x575000_1.length : Int)
         ·
          rw [if_pos c14] at H
          have c14b0 : decide (((rd_T78 l0 x9_1).f1) < (x575000_1.length : Int)) = true := decide_eq_true c14
          clear c14
          obtain ⟨y577, hy577⟩ : ∃ y_ : List Bool, y_ = (x575000_1.set (((rd_T78 l0 x9_1).f1) : Int).toNat true) := ⟨_, rfl⟩
          replace H : (impl_blocksIn.l0 k1 l0 (l0.length : Int) (wrap64 (x9_1 + 1)) y577) = some r := by first | (rw [hy577]; with_reducible exact H) | (have H2_ := (Option.bind_some _ _).symm.trans H; rw [hy577]; with_reducible exact H2_) | (have H2_ := (Option.bind_some _ _).symm.trans H; with_reducible exact H2_) | with_reducible exact H | (rw [hy577]; exact H) | exact H
          have Ny577 := Aside0.mk hy577
          clear hy577
          have H' := Aside0.mk H
          clear H
          have p575 : 0 ≤ (x9_1 : Int) := of_decide_eq_true (by first | (with_reducible assumption) | assumption)
          have q575 : x9_1 < (l0.length : Int) := of_decide_eq_true (by first | (with_reducible assumption) | assumption)
          obtain ⟨ad575, e575, hx575_0, hx575_1, hx575_2⟩ := at_T78 HR0.out x9_1 p575 q575
          (try rw [← Nbq11.out] at hx575_0)
          (try rw [← Nbq11.out] at hx575_2)
          cases e575
          replace hx575_0 := (HB.out.cell (World.block_lt_of_cell? w _ hx575_0)).trans hx575_0
          replace hx575_1 := (HB.out.cell (World.block_lt_of_cell? w _ hx575_1)).trans hx575_1
          replace hx575_2 := (HB.out.cell (World.block_lt_of_cell? w _ hx575_2)).trans hx575_2
          replace p575 := eq_true p575
          replace q575 := eq_true q575
          go_wp2_with (first | ((with_reducible refine gate_dst (N := 5) rfl ?_); refine box_event ?hg (N := 5) ?hd (cs := #[.bool false, .int .i64 0, .bool false]) (t := 78) ?hr ?_; (case hd => rfl); (case hg => rfl); (case hr => first | (go_simp; done) | (go_simp; rfl)); intro gb576 hg w16 hbox hb; replace HO_575000 := nr HO_575000 hb; have BK576 := Aside0.mk (hbox); have GW576 := Aside0.mk ((by rw [hg]; exact (below_size (bs1 HB GE574)) : w.heap.size ≤ gb576)); have GE576 := Aside0.mk ((by rw [hg]; exact (below_size (bs1 HB GE574)) : w.heap.size ≤ gb576)); replace HB := Aside0.mk (below_step (bs1 HB GE574) hb); have NB574_576 := Aside0.mk ((bn BK574 hg : gb574 ≠ gb576)); have NB576_574 := Aside0.mk ((bm BK574 hg : gb576 ≠ gb574)); replace BK574 := nb BK574 hb; clear hb hbox hg; have hnb17 := NB576_574.out; have hnc17 := NB574_576.out; obtain ⟨hcz18_0, hcz18_1, hcz18_2⟩ := cz3 BK576; obtain ⟨hfz18_0, hfz18_1, hfz18_2⟩ := fz3 BK576) | ((with_reducible refine gate_store (t := 78) (p := 5) rfl ?_); refine store_event (t := 78) (p := 5) (v := ?vo_w19) (w1 := (((w16.setCell ⟨gb576, 0, none⟩ (.bool true)).setCell ⟨gb576, 1, none⟩ (.int .i64 ((rd_T78 l0 x9_1).f1))).setCell ⟨gb576, 2, none⟩ (.bool ((rd_T78 l0 x9_1).f2)))) ?hg ?ho ?hn ?hr ?_; (case ho => rfl); (case hg => rfl); (case hn => rfl); (case hr => first | (go_simp; done) | (go_simp; rfl)); intro w19 hw; have n0_ : Aside0 (Kd.R Kd.bool 4 w19 w.heap.size (fun _ => True) u575000 x575000_1) := ⟨(by rw [hw]; exact (by (with_reducible repeat (first | apply Kd.R_alloc | apply Kd.R_drewN | apply Kd.R_drew)); exact Kd.R_mono (Kd.R_far (p := ⟨gb576, 2, none⟩) (Kd.R_far (p := ⟨gb576, 1, none⟩) (Kd.R_far (p := ⟨gb576, 0, none⟩) (Kd.R_types HO_575000.out BK576.out (by decide)) (fun _ hk => hk.2) (.bool true)) (fun _ hk => hk.2) (.int .i64 ((rd_T78 l0 x9_1).f1))) (fun _ hk => hk.2) (.bool ((rd_T78 l0 x9_1).f2))) (fun _ hk => trivial)))⟩; have n1_ : Aside0 (w19.heap[gb574]? = some (.cells #[u575000] 72 (0, 0))) := ⟨(by rw [hw]; exact (bf BK574 NB574_576))⟩; have n2_ : Aside0 (w19.heap[gb576]? = some (.cells #[.bool true, .int .i64 ((rd_T78 l0 x9_1).f1), .bool ((rd_T78 l0 x9_1).f2)] 78 (0, 0))) := ⟨(by rw [hw]; exact (by (with_reducible repeat (first | refine blk_drewN ?_ _ | refine blk_drew ?_ | refine blk_alloc ?_ _)); refine blk_put (cs := #[.bool true, .int .i64 ((rd_T78 l0 x9_1).f1), .bool false]) ?_ 2 _ rfl; (with_reducible repeat (first | refine blk_drewN ?_ _ | refine blk_drew ?_ | refine blk_alloc ?_ _)); refine blk_put (cs := #[.bool true, .int .i64 0, .bool false]) ?_ 1 _ rfl; (with_reducible repeat (first | refine blk_drewN ?_ _ | refine blk_drew ?_ | refine blk_alloc ?_ _)); refine blk_put (cs := #[.bool false, .int .i64 0, .bool false]) ?_ 0 _ rfl; (with_reducible repeat (first | refine blk_drewN ?_ _ | refine blk_drew ?_ | refine blk_alloc ?_ _)); exact BK576.out))⟩; have n3_ : Aside0 (Below w.heap.size w w19) := ⟨(by rw [hw]; exact (bs2 HB GE574 GE576))⟩; clear hw; clear HO_575000; clear BK574; clear BK576; clear HB; have HO_575000 := n0_; have BK574 := n1_; have BK576 := n2_; have HB := n3_; clear n0_ n1_ n2_ n3_; obtain ⟨hcz20_0, hcz20_1, hcz20_2⟩ := cz3 BK576; obtain ⟨hfz20_0, hfz20_1, hfz20_2⟩ := fz3 BK576; have hcz21_0 := cz1 BK574; have hfz21_0 := fz1 BK574; have p15 : 0 ≤ (((rd_T78 l0 x9_1).f1) : Int) := of_decide_eq_true (by first | (with_reducible assumption) | assumption); have q15 : (((rd_T78 l0 x9_1).f1) : Int) < ((x575000_1.length : Int) : Int) := of_decide_eq_true (by first | (with_reducible assumption) | assumption); obtain ⟨go15, co15, eo15, gb15, gl15, cl15, HG15⟩ := Kd.R_form HO_575000.out (by omega); (first | cases eo15 | (injection eo15 with ea_ en_ ec_; (first | subst ea_ | (injection ea_ with ea_; subst ea_)); subst ec_; clear en_)); have GB15 := Aside0.mk gb15; have GG15 := Aside0.mk HG15; clear gb15 gl15 HG15; obtain ⟨hx15_0, hf15_0⟩ := Kd.R_celln false HO_575000.out (((rd_T78 l0 x9_1).f1) : Int) p15 q15; replace p15 := eq_true p15; replace q15 := eq_true q15; obtain ⟨hy22_, hz22_⟩ := Kd.R_celln false HO_575000.out (((rd_T78 l0 x9_1).f1) : Int) (of_decide_eq_true (by first | (with_reducible assumption) | assumption)) (of_decide_eq_true (by first | (with_reducible assumption) | assumption)); have HP22 := Kd.R_putg HO_575000.out (((rd_T78 l0 x9_1).f1) : Int) true) | ((with_reducible refine gate_store (t := 4) (p := 18) rfl ?_); refine store_event (t := 4) (p := 18) (v := ?vo_w23) (w1 := (w19.setCell ⟨go15, (((rd_T78 l0 x9_1).f1) : Int).toNat, none⟩ (.bool true))) ?hg ?ho ?hn ?hr ?_; (case ho => rfl); (case hg => rfl); (case hn => rfl); (case hr => first | (go_simp; done) | (go_simp; rfl)); intro w23 hw; have hg : w19.grownBy w23 (some go15) := (by rw [hw]; exact HP22.2); have hp_ : Kd.R Kd.bool 4 w23 w.heap.size (fun _ => True) (.slice (some ⟨go15, 0, none⟩) x575000_1.length co15) y577 := (by rw [hw, Ny577.out]; exact HP22.1); clear HP22; replace BK574 := Aside0.mk (blk_grown (bk BK574) hg (Kd.R_ne HO_575000.out BK574.out (by decide))); replace BK576 := Aside0.mk (blk_grown (bk BK576) hg (Kd.R_ne HO_575000.out BK576.out (by decide))); replace HO_575000 := Aside0.mk (hp_); replace HB := Aside0.mk ((by rw [hw]; exact below_set (HB.out) GB15.out : Below w.heap.size w w23)); clear hg hw hp_))
          go_roundg k1
          case measure => have := HK1.out; omega
          case rel => exact ⟨(wrap64 (x9_1 + 1)), (y577), (.slice (some ⟨go15, 0, none⟩) x575000_1.length co15), (by first | rfl | (simp; done) | (simp [*]; done)), H', ⟨by have := HK1.out; omega⟩, ⟨rr HO_575000.out⟩, ⟨bk BK574⟩, ⟨bs2 HB GE574 GE576⟩⟩
         ·
          rw [if_neg c14] at H
          exact absurd H (by simp)
        ·
         rw [if_neg c13] at H
         exact absurd H (by simp)
       ·
        replace c12 := Bool.eq_false_iff.mpr c12
        subst c12
        rw [if_neg (show ¬ (false = true) by decide)] at H
        have H' := Aside0.mk H
        clear H
        have p575 : 0 ≤ (x9_1 : Int) := of_decide_eq_true (by first | (with_reducible assumption) | assumption)
        have q575 : x9_1 < (l0.length : Int) := of_decide_eq_true (by first | (with_reducible assumption) | assumption)
        obtain ⟨ad575, e575, hx575_0, hx575_1, hx575_2⟩ := at_T78 HR0.out x9_1 p575 q575
        (try rw [← Nbq11.out] at hx575_0)
        (try rw [← Nbq11.out] at hx575_2)
        cases e575
        replace hx575_0 := (HB.out.cell (World.block_lt_of_cell? w _ hx575_0)).trans hx575_0
        replace hx575_1 := (HB.out.cell (World.block_lt_of_cell? w _ hx575_1)).trans hx575_1
        replace hx575_2 := (HB.out.cell (World.block_lt_of_cell? w _ hx575_2)).trans hx575_2
        replace p575 := eq_true p575
        replace q575 := eq_true q575
        go_wp2_with (first | ((with_reducible refine gate_dst (N := 5) rfl ?_); refine box_event ?hg (N := 5) ?hd (cs := #[.bool false, .int .i64 0, .bool false]) (t := 78) ?hr ?_; (case hd => rfl); (case hg => rfl); (case hr => first | (go_simp; done) | (go_simp; rfl)); intro gb576 hg w24 hbox hb; replace HO_575000 := nr HO_575000 hb; have BK576 := Aside0.mk (hbox); have GW576 := Aside0.mk ((by rw [hg]; exact (below_size (bs1 HB GE574)) : w.heap.size ≤ gb576)); have GE576 := Aside0.mk ((by rw [hg]; exact (below_size (bs1 HB GE574)) : w.heap.size ≤ gb576)); replace HB := Aside0.mk (below_step (bs1 HB GE574) hb); have NB574_576 := Aside0.mk ((bn BK574 hg : gb574 ≠ gb576)); have NB576_574 := Aside0.mk ((bm BK574 hg : gb576 ≠ gb574)); replace BK574 := nb BK574 hb; clear hb hbox hg; have hnb25 := NB576_574.out; have hnc25 := NB574_576.out; obtain ⟨hcz26_0, hcz26_1, hcz26_2⟩ := cz3 BK576; obtain ⟨hfz26_0, hfz26_1, hfz26_2⟩ := fz3 BK576))
        go_roundg k1
        case measure => have := HK1.out; omega
        case rel => exact ⟨(wrap64 (x9_1 + 1)), (x575000_1), (u575000), (by first | rfl | (simp; done) | (simp [*]; done)), H', ⟨by have := HK1.out; omega⟩, ⟨by (with_reducible repeat (first | apply Kd.R_alloc | apply Kd.R_drewN | apply Kd.R_drew)); exact Kd.R_mono (Kd.R_far (p := ⟨gb576, 2, none⟩) (Kd.R_far (p := ⟨gb576, 1, none⟩) (Kd.R_far (p := ⟨gb576, 0, none⟩) (Kd.R_types HO_575000.out BK576.out (by decide)) (fun _ hk => hk.2) (.bool false)) (fun _ hk => hk.2) (.int .i64 ((rd_T78 l0 x9_1).f1))) (fun _ hk => hk.2) (.bool ((rd_T78 l0 x9_1).f2))) (fun _ hk => trivial)⟩, ⟨bf BK574 NB574_576⟩, ⟨bs2 HB GE574 GE576⟩⟩
      ·
       rw [if_neg c10] at H
       exact absurd H (by simp)
     ·
      rw [if_neg c9] at H
      exact absurd H (by simp)
    ·
     rw [if_neg c8] at H
     have c8b0 : decide (x9_1 < (l0.length : Int)) = false := decide_eq_false c8
     clear c8
     replace H := Option.bind_eq_some_iff.mp H
     obtain ⟨t578, A270, H⟩ := H
     replace H : (some t578) = some r := H
     have A27 := Aside0.mk A270
     clear A270
     obtain rfl := Option.some.inj H
     obtain ⟨Ao28, co28, eo28⟩ := Kd.R_slice HO_575000.out
     subst eo28
     go_wp2_with (first | ((with_reducible refine gate_callee (f := 58) rfl ?_); refine gL (some 21) rfl rfl Try.func58 (by kernel_rfl) rfl #[.int .i64 400, .func (.func 77) #[] #[.pointer (some ⟨gb574, 0, none⟩)]] rfl ?_; (with_reducible refine (impl_merged_at_impl_blocksIn_1.calls k1 400 gb574 Ao28 co28 x575000_1 t578 _ ?side1 ?side2 ?side3 A27.out).mono ?_); (case side1 => exact rc0 HO_575000); (case side2 => exact (Kd.R_reads' HO_575000.out).2.1); (case side3 => (with_reducible repeat (first | refine blk_drewN ?_ _ | refine blk_drew ?_ | refine blk_alloc ?_ _)); exact BK574.out); rintro e w29 ⟨v579, rfl, ho0, hb⟩; refine ⟨_, rfl, ?_⟩; replace HO_575000 := nr HO_575000 hb; have HO580 := Aside0.mk (Kd.R_lower ho0 (below_size (bs1 HB GE574))); replace BK574 := nb BK574 hb; replace HB := Aside0.mk (below_step (bs1 HB GE574) hb); (try clear hb); (try clear hb2); (try clear hk); (try clear hi); (try clear ho0)))
     go_ret
     exact ⟨_, by first | rfl | (simp [errW_none, errW_some] <;> rfl) | (simp [*, errW_none, errW_some] <;> rfl), by (with_reducible repeat (first | apply Kd.R_alloc | apply Kd.R_drewN | apply Kd.R_drew)); exact HO580.out, bs1 HB GE574⟩
 ·
  rw [if_neg c2] at H
  exact absurd H (by simp)

end Go.Proofs.Ytojdlcbmbpgplaa.G
