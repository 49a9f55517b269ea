-- Printed by a program of this session (drive.py, by way of the kit's print). Not trusted: Lean checks it.
import Derived.Test.YtojdlcbmbpgplaaG0
import Derived.Test.YtojdlcbmbpgplaaG3
namespace Go.Proofs.Ytojdlcbmbpgplaa.G
open Go.RowKit Go.Proofs.YtojdlcbmbpgplaaW.PrintWords Go.Proofs.YtojdlcbmbpgplaaW.PrintLast Go.Proofs.YtojdlcbmbpgplaaW.PrintMore
attribute [local go_sem] max2_int min2_int max_two min_two max_three min_three max_four min_four   -- for this text's walks alone
set_option linter.unusedVariables false
set_option linter.unusedSimpArgs false

/-! ### impl_mapOf: function 64 -/
def impl_mapOf.l0 : Nat → List (S78) → Int → Int → List (S48) → Option ((List (S48)) × Bool)
 | 0, _, _, _, _ => none
 | k + 1, x10, x11, x12, x412000 => if x12 < x11 then (if 0 ≤ x12 then (if x12 < (x10.length : Int) then (if ((rd_T78 x10 x12).f0 = true) then (if (wrap64 ((x412000.length : Int) - 1)) ≥ 0 then (if 0 ≤ (wrap64 ((x412000.length : Int) - 1)) then (if (wrap64 ((x412000.length : Int) - 1)) < (x412000.length : Int) then ((impl_continues.f ((rd_T48 x412000 (wrap64 ((x412000.length : Int) - 1))).f0) ((rd_T48 x412000 (wrap64 ((x412000.length : Int) - 1))).f1) ((rd_T48 x412000 (wrap64 ((x412000.length : Int) - 1))).f2) ((rd_T48 x412000 (wrap64 ((x412000.length : Int) - 1))).f3) x12 1 ((rd_T78 x10 x12).f1) ((rd_T78 x10 x12).f2)).bind fun t417 => (if t417 = true then (impl_mapOf.l0 k x10 x11 (wrap64 (x12 + 1)) (x412000.set ((wrap64 ((x412000.length : Int) - 1)) : Int).toNat (⟨(rd_T48 x412000 (wrap64 ((x412000.length : Int) - 1))).f0, wrap64 (((rd_T48 x412000 (wrap64 ((x412000.length : Int) - 1))).f1) + 1), (rd_T48 x412000 (wrap64 ((x412000.length : Int) - 1))).f2, (rd_T48 x412000 (wrap64 ((x412000.length : Int) - 1))).f3⟩ : S48))) else (if x412000.length < 4398046511104 then (impl_mapOf.l0 k x10 x11 (wrap64 (x12 + 1)) (x412000 ++ [(⟨x12, 1, (rd_T78 x10 x12).f1, (rd_T78 x10 x12).f2⟩ : S48)])) else (none)))) else (none)) else (none)) else (if x412000.length < 4398046511104 then (impl_mapOf.l0 k x10 x11 (wrap64 (x12 + 1)) (x412000 ++ [(⟨x12, 1, (rd_T78 x10 x12).f1, (rd_T78 x10 x12).f2⟩ : S48)])) else (none))) else (impl_mapOf.l0 k x10 x11 (wrap64 (x12 + 1)) x412000)) else (none)) else (none)) else ((impl_GoodMap.f k x412000).bind fun t412 => (if t412 = true then (some (x412000, true)) else (some (([] : List (S48)), false))))
def impl_mapOf.f (k : Nat) (l0 : List (S78)) : Option ((List (S48)) × Bool) := impl_mapOf.l0 k l0 (l0.length : Int) 0 ([] : List (S48))
theorem impl_mapOf.mono_l : ∀ k, (∀ y0 y1 y2 y3, LeO (impl_mapOf.l0 k y0 y1 y2 y3) (impl_mapOf.l0 (k + 1) y0 y1 y2 y3))
 | 0 => fun _ _ _ _ r h => by simp [impl_mapOf.l0] at h
 | k + 1 => by
  have ih0 := impl_mapOf.mono_l k
  ·
   intro y0 y1 y2 y3
   unfold impl_mapOf.l0
   repeat' first
   | (with_reducible exact ih0 _ _ _ _)
   | (with_reducible exact impl_GoodMap.mono _ _)
   | (with_reducible exact LeO.refl _)
   | (with_reducible exact LeO.none _)
   | (with_reducible refine LeO.ite ?_ ?_)
   | (with_reducible refine LeO.bind ?_ (fun _ => ?_))
   | exact ih0 _ _ _ _
   | exact impl_GoodMap.mono _ _
   | exact LeO.none _
   | refine LeO.ite ?_ ?_
   | refine LeO.bind ?_ (fun _ => ?_)
theorem impl_mapOf.mono : ∀ a0 k, LeO (impl_mapOf.f k a0) (impl_mapOf.f (k + 1) a0) := by
 intro a0 k
 have ih0 := impl_mapOf.mono_l k
 unfold impl_mapOf.f
 repeat' first
   | (with_reducible exact ih0 _ _ _ _)
   | (with_reducible exact impl_GoodMap.mono _ _)
   | (with_reducible exact LeO.refl _)
   | (with_reducible exact LeO.none _)
   | (with_reducible refine LeO.ite ?_ ?_)
   | (with_reducible refine LeO.bind ?_ (fun _ => ?_))
   | exact ih0 _ _ _ _
   | exact impl_GoodMap.mono _ _
   | exact LeO.none _
   | refine LeO.ite ?_ ?_
   | refine LeO.bind ?_ (fun _ => ?_)
def impl_mapOf.T8 : Bool × List (List Nat × List Nat) := (true, [([], []), ([0], [0]), ([1], [1]), ([2], [2]), ([3, 2], [2, 3]), ([2], [2]), ([4, 5, 2], [2, 4, 5]), ([6, 2], [2, 6]), ([2], [2]), ([7, 8, 2, 2], [2, 7, 8]), ([2, 9], [2, 9])])
def impl_mapOf.B8 : List Nat := [0, 1, 3, 7, 15, 7, 63, 127, 7, 511, 1023]
theorem impl_mapOf.tab8 : rtab .any (opsOf Try.f64 8) = impl_mapOf.T8 := by kernel_rfl
theorem impl_mapOf.bits8 : waitsOk impl_mapOf.T8.2 impl_mapOf.B8 = true := by kernel_rfl
set_option maxHeartbeats 8000000 in
set_option maxRecDepth 100000 in
theorem impl_mapOf.calls (k : Nat) (A0 : Option Addr) (c0 : Nat) (l0 : List (S78)) (r1 : List (S48)) (r2 : Bool) (w : World) (hr0 : Kd.C k78 w A0 l0.length l0) (hc0 : l0.length ≤ c0) (h : impl_mapOf.f k l0 = some (r1, r2)) :
  Calls Try.prog 64 #[.slice A0 l0.length c0] w fun e w' => ∃ v0_ : Value, e = .returned (.tuple #[.agg #[v0_], .bool r2]) ∧ Kd.R k48 48 w' w.heap.size (fun _ => True) v0_ r1 ∧ Below w.heap.size w w' := by
 have hu29 := Try.underlying29
 have hu78 := Try.underlying78
 have hu48 := Try.underlying48
 have HR0 := Aside0.mk hr0
 have HC0 := Aside0.mk hc0
 clear hr0 hc0
 have HB := Aside0.mk (Below.refl w.heap.size w)
 have H : (impl_mapOf.l0 k l0 (l0.length : Int) 0 ([] : List (S48))) = some (r1, r2) := h
 clear h
 have H' := Aside0.mk H
 clear H
 go_enter Try.func64, Try.ntmps64
 go_wp2_with (first | ((with_reducible refine gate_dst (N := 2) rfl ?_); refine box_event ?hg (N := 2) ?hd (cs := #[.slice none 0 0]) (t := 29) ?hr ?_; (case hd => rfl); (case hg => rfl); (case hr => first | (go_simp; done) | (go_simp; rfl)); intro gb410 hg w2 hbox hb; have BK410 := Aside0.mk (hbox); have GW410 := Aside0.mk ((by rw [hg]; exact (below_size (bs HB)) : w.heap.size ≤ gb410)); have GE410 := Aside0.mk ((by rw [hg]; exact (below_size (bs HB)) : w.heap.size ≤ gb410)); replace HB := Aside0.mk (below_step (bs HB) hb); clear hb hbox hg) | ((with_reducible refine gate_dst (N := 4) rfl ?_); refine box_event ?hg (N := 4) ?hd (cs := #[.slice none 0 0]) (t := 29) ?hr ?_; (case hd => rfl); (case hg => rfl); (case hr => first | (go_simp; done) | (go_simp; rfl)); intro gb411 hg w3 hbox hb; have BK411 := Aside0.mk (hbox); have GW411 := Aside0.mk ((by rw [hg]; exact (below_size (bs1 HB GE410)) : w.heap.size ≤ gb411)); have GE411 := Aside0.mk ((by rw [hg]; exact (below_size (bs1 HB GE410)) : w.heap.size ≤ gb411)); replace HB := Aside0.mk (below_step (bs1 HB GE410) hb); have NB410_411 := Aside0.mk ((bn BK410 hg : gb410 ≠ gb411)); have NB411_410 := Aside0.mk ((bm BK410 hg : gb411 ≠ gb410)); replace BK410 := nb BK410 hb; clear hb hbox hg; have hnb4 := NB411_410.out; have hnc4 := NB410_411.out; have hcz5_0 := cz1 BK411; have hfz5_0 := fz1 BK411))
 go_loopg [12] k (fun kq v12 w' => ∃ (x12_1 : Int) (x412000_1 : List (S48)) (u412000 : Value), v12 = .int .i64 x12_1 ∧ Aside0 (impl_mapOf.l0 kq l0 (l0.length : Int) x12_1 x412000_1 = some (r1, r2)) ∧ Aside0 (kq ≤ k) ∧ Aside0 (Kd.R k48 48 w' w.heap.size (fun _ => True) u412000 x412000_1) ∧ Aside0 (w'.heap[gb410]? = some (.cells #[(.slice none 0 0)] 29 (0, 0))) ∧ Aside0 (w'.heap[gb411]? = some (.cells #[u412000] 29 (0, 0))) ∧ Aside0 (Below w.heap.size w w'))
 case atStart => exact ⟨(0), (([] : List (S48))), (.slice none 0 0), (by first | rfl | (simp; done) | (simp [*]; done)), H', ⟨Nat.le_refl _⟩, ⟨by first | exact Kd.R_nil _ _ _ _ _ | exact Kd.N_nil _ _ _ _ _ | exact Kd.V_nil _ _ _ _ _ | exact Kd.Q_nil _ _ _ _ _ | exact Kd.S_nil _ _ _ _ _⟩, ⟨bf BK410 NB410_411⟩, ⟨by (with_reducible repeat (first | refine blk_drewN ?_ _ | refine blk_drew ?_ | refine blk_alloc ?_ _)); refine blk_put (cs := #[.slice none 0 0]) ?_ 0 _ rfl; (with_reducible repeat (first | refine blk_drewN ?_ _ | refine blk_drew ?_ | refine blk_alloc ?_ _)); exact BK411.out⟩, ⟨bs2 HB GE410 GE411⟩⟩
 case round =>
  clear H'
  try clear p2
  try clear c4
  try clear hcz5_0
  try clear hfz5_0
  obtain ⟨x12_1, x412000_1, u412000, rfl, HA, HK1, HO_412000, BK410, BK411, HB⟩ := hrel
  cases gk with
  | zero => exact absurd HA.out (by simp [impl_mapOf.l0])
  | succ k1 =>
   have H := HA.out
   clear HA
   simp only [impl_mapOf.l0] at H
   by_cases c6 : x12_1 < (l0.length : Int)
   ·
    rw [if_pos c6] at H
    have c6b0 : decide (x12_1 < (l0.length : Int)) = true := decide_eq_true c6
    clear c6
    by_cases c7 : 0 ≤ x12_1
    ·
     rw [if_pos c7] at H
     have c7b0 : decide (0 ≤ x12_1) = true := decide_eq_true c7
     clear c7
     by_cases c8 : x12_1 < (l0.length : Int)
     ·
      rw [if_pos c8] at H
      have c8b0 : decide (x12_1 < (l0.length : Int)) = true := decide_eq_true c8
      clear c8
      obtain ⟨bq9, hbq9⟩ : ∃ b_ : Bool, b_ = ((rd_T78 l0 x12_1).f0) := ⟨_, rfl⟩
      replace H : (if (bq9 = true) then (if (wrap64 ((x412000_1.length : Int) - 1)) ≥ 0 then (if 0 ≤ (wrap64 ((x412000_1.length : Int) - 1)) then (if (wrap64 ((x412000_1.length : Int) - 1)) < (x412000_1.length : Int) then ((impl_continues.f ((rd_T48 x412000_1 (wrap64 ((x412000_1.length : Int) - 1))).f0) ((rd_T48 x412000_1 (wrap64 ((x412000_1.length : Int) - 1))).f1) ((rd_T48 x412000_1 (wrap64 ((x412000_1.length : Int) - 1))).f2) ((rd_T48 x412000_1 (wrap64 ((x412000_1.length : Int) - 1))).f3) x12_1 1 ((rd_T78 l0 x12_1).f1) ((rd_T78 l0 x12_1).f2)).bind fun t417 => (if t417 = true then (impl_mapOf.l0 k1 l0 (l0.length : Int) (wrap64 (x12_1 + 1)) (x412000_1.set ((wrap64 ((x412000_1.length : Int) - 1)) : Int).toNat (⟨(rd_T48 x412000_1 (wrap64 ((x412000_1.length : Int) - 1))).f0, wrap64 (((rd_T48 x412000_1 (wrap64 ((x412000_1.length : Int) - 1))).f1) + 1), (rd_T48 x412000_1 (wrap64 ((x412000_1.length : Int) - 1))).f2, (rd_T48 x412000_1 (wrap64 ((x412000_1.length : Int) - 1))).f3⟩ : S48))) else (if x412000_1.length < 4398046511104 then (impl_mapOf.l0 k1 l0 (l0.length : Int) (wrap64 (x12_1 + 1)) (x412000_1 ++ [(⟨x12_1, 1, (rd_T78 l0 x12_1).f1, (rd_T78 l0 x12_1).f2⟩ : S48)])) else (none)))) else (none)) else (none)) else (if x412000_1.length < 4398046511104 then (impl_mapOf.l0 k1 l0 (l0.length : Int) (wrap64 (x12_1 + 1)) (x412000_1 ++ [(⟨x12_1, 1, (rd_T78 l0 x12_1).f1, (rd_T78 l0 x12_1).f2⟩ : S48)])) else (none))) else (impl_mapOf.l0 k1 l0 (l0.length : Int) (wrap64 (x12_1 + 1)) x412000_1)) = some (r1, r2) := by rw [← hbq9] at H; exact H
      have Nbq9 := Aside0.mk hbq9
      clear hbq9
      by_cases c10 : (bq9 = true)
      ·
       subst c10
       rw [if_pos rfl] at H
       by_cases c11 : (wrap64 ((x412000_1.length : Int) - 1)) ≥ 0
       ·
        rw [if_pos c11] at H
        have c11b0 : decide (0 ≤ (wrap64 ((x412000_1.length : Int) - 1))) = true := decide_eq_true c11
        clear c11
        obtain ⟨ji12, hji12⟩ : ∃ j_ : Int, (wrap64 ((x412000_1.length : Int) - 1)) = j_ := ⟨_, rfl⟩
        replace H : (if 0 ≤ (ji12) then (if (ji12) < (x412000_1.length : Int) then ((impl_continues.f ((rd_T48 x412000_1 (ji12)).f0) ((rd_T48 x412000_1 (ji12)).f1) ((rd_T48 x412000_1 (ji12)).f2) ((rd_T48 x412000_1 (ji12)).f3) x12_1 1 ((rd_T78 l0 x12_1).f1) ((rd_T78 l0 x12_1).f2)).bind fun t417 => (if t417 = true then (impl_mapOf.l0 k1 l0 (l0.length : Int) (wrap64 (x12_1 + 1)) (x412000_1.set ((ji12) : Int).toNat (⟨(rd_T48 x412000_1 (ji12)).f0, wrap64 (((rd_T48 x412000_1 (ji12)).f1) + 1), (rd_T48 x412000_1 (ji12)).f2, (rd_T48 x412000_1 (ji12)).f3⟩ : S48))) else (if x412000_1.length < 4398046511104 then (impl_mapOf.l0 k1 l0 (l0.length : Int) (wrap64 (x12_1 + 1)) (x412000_1 ++ [(⟨x12_1, 1, (rd_T78 l0 x12_1).f1, (rd_T78 l0 x12_1).f2⟩ : S48)])) else (none)))) else (none)) else (none)) = some (r1, r2) := by first | (rw [hji12] at H; exact H) | (simp only [hji12] at H ⊢; exact H)
        (try rw [hji12] at c11b0)
        have hji12w : (IntKind.i64.wrap ((x412000_1.length : Int) - 1)) = ji12 := (i64_w _).trans hji12
        by_cases c13 : 0 ≤ (ji12)
        ·
         rw [if_pos c13] at H
         have c13b0 : decide (0 ≤ (ji12)) = true := decide_eq_true c13
         clear c13
         by_cases c14 : (ji12) < (x412000_1.length : Int)
         ·
          rw [if_pos c14] at H
          have c14b0 : decide ((ji12) < (x412000_1.length : Int)) = true := decide_eq_true c14
          clear c14
          replace H := Option.bind_eq_some_iff.mp H
          obtain ⟨t417, A150, H⟩ := H
          replace H : (if t417 = true then (impl_mapOf.l0 k1 l0 (l0.length : Int) (wrap64 (x12_1 + 1)) (x412000_1.set ((ji12) : Int).toNat (⟨(rd_T48 x412000_1 (ji12)).f0, wrap64 (((rd_T48 x412000_1 (ji12)).f1) + 1), (rd_T48 x412000_1 (ji12)).f2, (rd_T48 x412000_1 (ji12)).f3⟩ : S48))) else (if x412000_1.length < 4398046511104 then (impl_mapOf.l0 k1 l0 (l0.length : Int) (wrap64 (x12_1 + 1)) (x412000_1 ++ [(⟨x12_1, 1, (rd_T78 l0 x12_1).f1, (rd_T78 l0 x12_1).f2⟩ : S48)])) else (none))) = some (r1, r2) := H
          have A15 := Aside0.mk A150
          clear A150
          by_cases c16 : t417 = true
          ·
           subst c16
           rw [if_pos rfl] at H
           obtain ⟨y419, hy419⟩ : ∃ y_ : List (S48), y_ = (x412000_1.set ((ji12) : Int).toNat (⟨(rd_T48 x412000_1 (ji12)).f0, wrap64 (((rd_T48 x412000_1 (ji12)).f1) + 1), (rd_T48 x412000_1 (ji12)).f2, (rd_T48 x412000_1 (ji12)).f3⟩ : S48)) := ⟨_, rfl⟩
           replace H : (impl_mapOf.l0 k1 l0 (l0.length : Int) (wrap64 (x12_1 + 1)) y419) = some (r1, r2) := by first | (rw [hy419]; with_reducible exact H) | (have H2_ := (Option.bind_some _ _).symm.trans H; rw [hy419]; with_reducible exact H2_) | (have H2_ := (Option.bind_some _ _).symm.trans H; with_reducible exact H2_) | with_reducible exact H | (rw [hy419]; exact H) | exact H
           have Ny419 := Aside0.mk hy419
           clear hy419
           have H' := Aside0.mk H
           clear H
           have p413 : 0 ≤ (x12_1 : Int) := of_decide_eq_true (by first | (with_reducible assumption) | assumption)
           have q413 : x12_1 < (l0.length : Int) := of_decide_eq_true (by first | (with_reducible assumption) | assumption)
           obtain ⟨ad413, e413, hx413_0, hx413_1, hx413_2⟩ := at_T78 HR0.out x12_1 p413 q413
           (try rw [← Nbq9.out] at hx413_0)
           (try rw [← Nbq9.out] at hx413_2)
           cases e413
           replace hx413_0 := (HB.out.cell (World.block_lt_of_cell? w _ hx413_0)).trans hx413_0
           replace hx413_1 := (HB.out.cell (World.block_lt_of_cell? w _ hx413_1)).trans hx413_1
           replace hx413_2 := (HB.out.cell (World.block_lt_of_cell? w _ hx413_2)).trans hx413_2
           replace p413 := eq_true p413
           replace q413 := eq_true q413
           try go_wp2_with (first | ((with_reducible refine gate_dst (N := 6) rfl ?_); refine box_event ?hg (N := 6) ?hd (cs := #[.bool false, .int .i64 0, .bool false]) (t := 78) ?hr ?_; (case hd => rfl); (case hg => rfl); (case hr => first | (go_simp; done) | (go_simp; rfl)); intro gb414 hg w18 hbox hb; replace HO_412000 := nr HO_412000 hb; have BK414 := Aside0.mk (hbox); have GW414 := Aside0.mk ((by rw [hg]; exact (below_size (bs2 HB GE410 GE411)) : w.heap.size ≤ gb414)); have GE414 := Aside0.mk ((by rw [hg]; exact (below_size (bs2 HB GE410 GE411)) : w.heap.size ≤ gb414)); replace HB := Aside0.mk (below_step (bs2 HB GE410 GE411) hb); have NB410_414 := Aside0.mk ((bn BK410 hg : gb410 ≠ gb414)); have NB414_410 := Aside0.mk ((bm BK410 hg : gb414 ≠ gb410)); replace BK410 := nb BK410 hb; have NB411_414 := Aside0.mk ((bn BK411 hg : gb411 ≠ gb414)); have NB414_411 := Aside0.mk ((bm BK411 hg : gb414 ≠ gb411)); replace BK411 := nb BK411 hb; clear hb hbox hg; have hnb19 := NB414_410.out; have hnc19 := NB410_414.out; have hnb20 := NB414_411.out; have hnc20 := NB411_414.out; obtain ⟨hcz21_0, hcz21_1, hcz21_2⟩ := cz3 BK414; obtain ⟨hfz21_0, hfz21_1, hfz21_2⟩ := fz3 BK414) | ((with_reducible refine gate_dst (N := 7) rfl ?_); refine box_event ?hg (N := 7) ?hd (cs := #[.int .i64 0, .int .i64 0, .int .i64 0, .bool false]) (t := 48) ?hr ?_; (case hd => rfl); (case hg => rfl); (case hr => first | (go_simp; done) | (go_simp; rfl)); intro gb415 hg w22 hbox hb; replace HO_412000 := Aside0.mk (Kd.R_below (Kd.R_elderB (by (with_reducible repeat (first | apply Kd.R_alloc | apply Kd.R_drewN | apply Kd.R_drew)); exact (Kd.R_mono (Kd.R_far (p := ⟨gb414, 2, none⟩) (Kd.R_far (p := ⟨gb414, 1, none⟩) (Kd.R_far (p := ⟨gb414, 0, none⟩) (Kd.R_types HO_412000.out BK414.out (by decide)) (fun _ hk => hk.2) (.bool true)) (fun _ hk => hk.2) (.int .i64 ((rd_T78 l0 x12_1).f1))) (fun _ hk => hk.2) (.bool ((rd_T78 l0 x12_1).f2))) (fun _ h_ => h_.1))) gb415 (Nat.le_of_eq hg.symm)) hb); have BK415 := Aside0.mk (hbox); have GW415 := Aside0.mk ((by rw [hg]; exact (below_size (bs3 HB GE410 GE411 GE414)) : w.heap.size ≤ gb415)); have GE415 := Aside0.mk ((by rw [hg]; exact (below_size (bs3 HB GE410 GE411 GE414)) : w.heap.size ≤ gb415)); replace HB := Aside0.mk (below_step (bs3 HB GE410 GE411 GE414) hb); have NB410_415 := Aside0.mk ((by rw [hg]; exact Nat.ne_of_lt (blk_lt (g := gb410) (o := .cells #[.slice none 0 0] 29 (0, 0)) (bf BK410 NB410_414)) : gb410 ≠ gb415)); have NB415_410 := Aside0.mk ((by rw [hg]; exact Nat.ne_of_gt (blk_lt (g := gb410) (o := .cells #[.slice none 0 0] 29 (0, 0)) (bf BK410 NB410_414)) : gb415 ≠ gb410)); replace BK410 := Aside0.mk (blk_below (bf BK410 NB410_414) hb); have NB411_415 := Aside0.mk ((by rw [hg]; exact Nat.ne_of_lt (blk_lt (g := gb411) (o := .cells #[u412000] 29 (0, 0)) (bf BK411 NB411_414)) : gb411 ≠ gb415)); have NB415_411 := Aside0.mk ((by rw [hg]; exact Nat.ne_of_gt (blk_lt (g := gb411) (o := .cells #[u412000] 29 (0, 0)) (bf BK411 NB411_414)) : gb415 ≠ gb411)); replace BK411 := Aside0.mk (blk_below (bf BK411 NB411_414) hb); have NB414_415 := Aside0.mk ((bnz BK414 hg : gb414 ≠ gb415)); have NB415_414 := Aside0.mk ((bmz BK414 hg : gb415 ≠ gb414)); replace BK414 := Aside0.mk (blk_below (g := gb414) (o := .cells #[.bool true, .int .i64 ((rd_T78 l0 x12_1).f1), .bool ((rd_T78 l0 x12_1).f2)] 78 (0, 0)) (by (with_reducible repeat (first | refine blk_drewN ?_ _ | refine blk_drew ?_ | refine blk_alloc ?_ _)); refine blk_put (cs := #[.bool true, .int .i64 ((rd_T78 l0 x12_1).f1), .bool false]) ?_ 2 _ rfl; (with_reducible repeat (first | refine blk_drewN ?_ _ | refine blk_drew ?_ | refine blk_alloc ?_ _)); refine blk_put (cs := #[.bool true, .int .i64 0, .bool false]) ?_ 1 _ rfl; (with_reducible repeat (first | refine blk_drewN ?_ _ | refine blk_drew ?_ | refine blk_alloc ?_ _)); refine blk_put (cs := #[.bool false, .int .i64 0, .bool false]) ?_ 0 _ rfl; (with_reducible repeat (first | refine blk_drewN ?_ _ | refine blk_drew ?_ | refine blk_alloc ?_ _)); exact BK414.out) hb); clear hb hbox hg; have hnb23 := NB415_410.out; have hnc23 := NB410_415.out; have hnb24 := NB415_411.out; have hnc24 := NB411_415.out; have hnb25 := NB415_414.out; have hnc25 := NB414_415.out; obtain ⟨hcz26_0, hcz26_1, hcz26_2, hcz26_3⟩ := cz4 BK415; obtain ⟨hfz26_0, hfz26_1, hfz26_2, hfz26_3⟩ := fz4 BK415; have hnb27 := NB411_410.out; have hnc27 := NB410_411.out; have hcz28_0 := cz1 BK411; have hfz28_0 := fz1 BK411; obtain ⟨Ao29, co29, eo29⟩ := Kd.R_slice HO_412000.out; subst eo29))
           have n0_ : Aside0 (Kd.R k48 48 ((((w22.setCell ⟨gb415, 0, none⟩ (.int .i64 x12_1)).setCell ⟨gb415, 1, none⟩ (.int .i64 1)).setCell ⟨gb415, 2, none⟩ (.int .i64 ((rd_T78 l0 x12_1).f1))).setCell ⟨gb415, 3, none⟩ (.bool ((rd_T78 l0 x12_1).f2))) w.heap.size (fun k_ => k_ ≠ gb415) (.slice Ao29 x412000_1.length co29) x412000_1) := ⟨by (with_reducible repeat (first | apply Kd.R_alloc | apply Kd.R_drewN | apply Kd.R_drew)); exact Kd.R_mono (Kd.R_far (p := ⟨gb415, 3, none⟩) (Kd.R_far (p := ⟨gb415, 2, none⟩) (Kd.R_far (p := ⟨gb415, 1, none⟩) (Kd.R_far (p := ⟨gb415, 0, none⟩) (Kd.R_mono HO_412000.out (fun k_ hk => (⟨hk, hk.2⟩ : _ ∧ k_ ≠ gb415))) (fun _ hk => hk.2) (.int .i64 x12_1)) (fun _ hk => hk.2) (.int .i64 1)) (fun _ hk => hk.2) (.int .i64 ((rd_T78 l0 x12_1).f1))) (fun _ hk => hk.2) (.bool ((rd_T78 l0 x12_1).f2))) (fun _ hk => hk.1.2)⟩
           have n1_ : Aside0 (((((w22.setCell ⟨gb415, 0, none⟩ (.int .i64 x12_1)).setCell ⟨gb415, 1, none⟩ (.int .i64 1)).setCell ⟨gb415, 2, none⟩ (.int .i64 ((rd_T78 l0 x12_1).f1))).setCell ⟨gb415, 3, none⟩ (.bool ((rd_T78 l0 x12_1).f2))).heap[gb410]? = some (.cells #[.slice none 0 0] 29 (0, 0))) := ⟨bf BK410 NB410_415⟩
           have n2_ : Aside0 (((((w22.setCell ⟨gb415, 0, none⟩ (.int .i64 x12_1)).setCell ⟨gb415, 1, none⟩ (.int .i64 1)).setCell ⟨gb415, 2, none⟩ (.int .i64 ((rd_T78 l0 x12_1).f1))).setCell ⟨gb415, 3, none⟩ (.bool ((rd_T78 l0 x12_1).f2))).heap[gb411]? = some (.cells #[.slice Ao29 x412000_1.length co29] 29 (0, 0))) := ⟨bf BK411 NB411_415⟩
           have n3_ : Aside0 (((((w22.setCell ⟨gb415, 0, none⟩ (.int .i64 x12_1)).setCell ⟨gb415, 1, none⟩ (.int .i64 1)).setCell ⟨gb415, 2, none⟩ (.int .i64 ((rd_T78 l0 x12_1).f1))).setCell ⟨gb415, 3, none⟩ (.bool ((rd_T78 l0 x12_1).f2))).heap[gb414]? = some (.cells #[.bool true, .int .i64 ((rd_T78 l0 x12_1).f1), .bool ((rd_T78 l0 x12_1).f2)] 78 (0, 0))) := ⟨bf BK414 NB414_415⟩
           have n4_ : Aside0 (((((w22.setCell ⟨gb415, 0, none⟩ (.int .i64 x12_1)).setCell ⟨gb415, 1, none⟩ (.int .i64 1)).setCell ⟨gb415, 2, none⟩ (.int .i64 ((rd_T78 l0 x12_1).f1))).setCell ⟨gb415, 3, none⟩ (.bool ((rd_T78 l0 x12_1).f2))).heap[gb415]? = some (.cells #[.int .i64 x12_1, .int .i64 1, .int .i64 ((rd_T78 l0 x12_1).f1), .bool ((rd_T78 l0 x12_1).f2)] 48 (0, 0))) := ⟨by (with_reducible repeat (first | refine blk_drewN ?_ _ | refine blk_drew ?_ | refine blk_alloc ?_ _)); refine blk_put (cs := #[.int .i64 x12_1, .int .i64 1, .int .i64 ((rd_T78 l0 x12_1).f1), .bool false]) ?_ 3 _ rfl; (with_reducible repeat (first | refine blk_drewN ?_ _ | refine blk_drew ?_ | refine blk_alloc ?_ _)); refine blk_put (cs := #[.int .i64 x12_1, .int .i64 1, .int .i64 0, .bool false]) ?_ 2 _ rfl; (with_reducible repeat (first | refine blk_drewN ?_ _ | refine blk_drew ?_ | refine blk_alloc ?_ _)); refine blk_put (cs := #[.int .i64 x12_1, .int .i64 0, .int .i64 0, .bool false]) ?_ 1 _ rfl; (with_reducible repeat (first | refine blk_drewN ?_ _ | refine blk_drew ?_ | refine blk_alloc ?_ _)); refine blk_put (cs := #[.int .i64 0, .int .i64 0, .int .i64 0, .bool false]) ?_ 0 _ rfl; (with_reducible repeat (first | refine blk_drewN ?_ _ | refine blk_drew ?_ | refine blk_alloc ?_ _)); exact BK415.out⟩
           have n5_ : Aside0 (Below w.heap.size w ((((w22.setCell ⟨gb415, 0, none⟩ (.int .i64 x12_1)).setCell ⟨gb415, 1, none⟩ (.int .i64 1)).setCell ⟨gb415, 2, none⟩ (.int .i64 ((rd_T78 l0 x12_1).f1))).setCell ⟨gb415, 3, none⟩ (.bool ((rd_T78 l0 x12_1).f2)))) := ⟨bs4 HB GE410 GE411 GE414 GE415⟩
           (try clear HO_412000)
           (try clear BK410)
           (try clear BK411)
           (try clear BK414)
           (try clear BK415)
           (try clear HB)
           generalize ((((w22.setCell ⟨gb415, 0, none⟩ (.int .i64 x12_1)).setCell ⟨gb415, 1, none⟩ (.int .i64 1)).setCell ⟨gb415, 2, none⟩ (.int .i64 ((rd_T78 l0 x12_1).f1))).setCell ⟨gb415, 3, none⟩ (.bool ((rd_T78 l0 x12_1).f2))) = w30 at n0_ n1_ n2_ n3_ n4_ n5_ ⊢
           have HO_412000 := n0_
           have BK410 := n1_
           have BK411 := n2_
           have BK414 := n3_
           have BK415 := n4_
           have HB := n5_
           clear n0_ n1_ n2_ n3_ n4_ n5_
           have n0_ := Aside0.mk (Kd.R_drew HO_412000.out)
           have n1_ := Aside0.mk (blk_drew BK410.out)
           have n2_ := Aside0.mk (blk_drew BK411.out)
           have n3_ := Aside0.mk (blk_drew BK414.out)
           have n4_ := Aside0.mk (blk_drew BK415.out)
           have n5_ := Aside0.mk (below_drew1 HB.out)
           clear HO_412000
           clear BK410
           clear BK411
           clear BK414
           clear BK415
           clear HB
           have HO_412000 := n0_
           have BK410 := n1_
           have BK411 := n2_
           have BK414 := n3_
           have BK415 := n4_
           have HB := n5_
           clear n0_ n1_ n2_ n3_ n4_ n5_
           have p416 : 0 ≤ ((ji12) : Int) := of_decide_eq_true (by first | (with_reducible assumption) | assumption)
           have q416 : (ji12) < (x412000_1.length : Int) := of_decide_eq_true (by first | (with_reducible assumption) | assumption)
           obtain ⟨ad416, e416, hx416_0, hx416_1, hx416_2, hx416_3⟩ := at_T48 (Kd.R_reads' HO_412000.out).2.2 (ji12) p416 q416
           (try rw [← Nbq9.out] at hx416_3)
           cases e416
           replace p416 := eq_true p416
           replace q416 := eq_true q416
           refine start_ (n := 11) (S := fun w' => w'.cell? ⟨gb411, 0, none⟩ = some (.slice (some ad416) x412000_1.length co29) ∧ w'.cell? ⟨gb415, 0, none⟩ = some (.int .i64 x12_1) ∧ w'.cell? ⟨gb415, 1, none⟩ = some (.int .i64 1) ∧ w'.cell? ⟨gb415, 2, none⟩ = some (.int .i64 ((rd_T78 l0 x12_1).f1)) ∧ w'.cell? ⟨gb415, 3, none⟩ = some (.bool ((rd_T78 l0 x12_1).f2)) ∧ w'.cell? (ad416.add (((ji12)).toNat * 4)) = some (.int .i64 ((rd_T48 x412000_1 (ji12)).f0)) ∧ w'.cell? ⟨(ad416.add (((ji12)).toNat * 4)).block, (ad416.add (((ji12)).toNat * 4)).off + 1, none⟩ = some (.int .i64 ((rd_T48 x412000_1 (ji12)).f1)) ∧ w'.cell? ⟨(ad416.add (((ji12)).toNat * 4)).block, (ad416.add (((ji12)).toNat * 4)).off + 2, none⟩ = some (.int .i64 ((rd_T48 x412000_1 (ji12)).f2)) ∧ w'.cell? ⟨(ad416.add (((ji12)).toNat * 4)).block, (ad416.add (((ji12)).toNat * 4)).off + 3, none⟩ = some (.bool ((rd_T48 x412000_1 (ji12)).f3))) (ds := []) #[false, false, false, false, false, false, false, false, false, false, false] (by kernel_rfl) rfl rfl ⟨(blk_cell BK411.out 0).trans rfl, (blk_cell BK415.out 0).trans rfl, (blk_cell BK415.out 1).trans rfl, (blk_cell BK415.out 2).trans rfl, (blk_cell BK415.out 3).trans rfl, hx416_0, hx416_1, hx416_2, hx416_3⟩ (fun hHeld => ?_); refine with_tabW impl_mapOf.tab8 impl_mapOf.bits8 (fun HT_ HW_ => ?_)
           generalize w30.drew = w31 at HO_412000 BK410 BK411 BK414 BK415 HB hx416_0 hx416_1 hx416_2 hx416_3 hHeld ⊢
           refine pureS 0 30 HT_.out ?_
           refine pureS 1 31 HT_.out ?_
           refine pureS 2 32 HT_.out ?_
           refine pureS 3 33 HT_.out ?_
           refine pureS 5 35 HT_.out ?_
           refine takeS 4 34 HT_.out HW_.out hHeld (hr := by rintro w' ⟨s0, s1, s2, s3, s4, s5, s6, s7, s8⟩; go_simp; with_reducible rfl) (h := ?_)
           refine pureS 6 36 HT_.out ?_
           refine takeS 7 37 HT_.out HW_.out hHeld (hr := by rintro w' ⟨s0, s1, s2, s3, s4, s5, s6, s7, s8⟩; go_simp; with_reducible rfl) (h := ?_)
           refine takeS 8 38 HT_.out HW_.out hHeld (hr := by rintro w' ⟨s0, s1, s2, s3, s4, s5, s6, s7, s8⟩; go_simp; with_reducible rfl) (h := ?_)
           refine one_ (i := 9) (N := some 39) #[true, true, true, true, true, true, true, true, true, true, false] rfl rfl (one_of HT_.out (by kernel_rfl)) (by decide) (fun K hK => ?_)
           refine goes_ Try.func52 (by kernel_rfl) rfl #[.agg #[.int .i64 ((rd_T48 x412000_1 (ji12)).f0), .int .i64 ((rd_T48 x412000_1 (ji12)).f1), .int .i64 ((rd_T48 x412000_1 (ji12)).f2), .bool ((rd_T48 x412000_1 (ji12)).f3)], .agg #[.int .i64 x12_1, .int .i64 1, .int .i64 ((rd_T78 l0 x12_1).f1), .bool ((rd_T78 l0 x12_1).f2)]] (by rfl) rfl rfl (by (try simp only [List.map_toArray, List.map_cons, List.map_nil]); first | done | (simp only [hji12]; rfl) | rfl | (simp only [List.length_drop, List.length_take]; rfl)) ?_
           with_reducible refine (impl_continues.calls ((rd_T48 x412000_1 (ji12)).f0) ((rd_T48 x412000_1 (ji12)).f1) ((rd_T48 x412000_1 (ji12)).f2) ((rd_T48 x412000_1 (ji12)).f3) x12_1 1 ((rd_T78 l0 x12_1).f1) ((rd_T78 l0 x12_1).f2) true _ A15.out).mono ?_
           rintro e w32 ⟨rfl, hb⟩
           have HS5_ := (hb.cell (World.block_lt_of_cell? _ _ (hHeld.2.2.2.2.2.1))).trans (hHeld.2.2.2.2.2.1)
           have HS6_ := (hb.cell (World.block_lt_of_cell? _ _ (hHeld.2.2.2.2.2.2.1))).trans (hHeld.2.2.2.2.2.2.1)
           have HS7_ := (hb.cell (World.block_lt_of_cell? _ _ (hHeld.2.2.2.2.2.2.2.1))).trans (hHeld.2.2.2.2.2.2.2.1)
           have HS8_ := (hb.cell (World.block_lt_of_cell? _ _ (hHeld.2.2.2.2.2.2.2.2))).trans (hHeld.2.2.2.2.2.2.2.2)
           refine ⟨_, rfl, ?_⟩
           have n0_ := Aside0.mk (Kd.R_below (rr HO_412000.out) hb)
           have n1_ := Aside0.mk (bb BK410 hb)
           have n2_ := Aside0.mk (bb BK411 hb)
           have n3_ := Aside0.mk (bb BK414 hb)
           have n4_ := Aside0.mk (bb BK415 hb)
           have n5_ := Aside0.mk (below_step (bs4 HB GE410 GE411 GE414 GE415) hb)
           clear HO_412000
           clear BK410
           clear BK411
           clear BK414
           clear BK415
           clear HB
           have HO_412000 := n0_
           have BK410 := n1_
           have BK411 := n2_
           have BK414 := n3_
           have BK415 := n4_
           have HB := n5_
           clear n0_ n1_ n2_ n3_ n4_ n5_
           (try clear hb)
           (try clear hb2)
           (try clear hk)
           (try clear hi)
           refine hK.out _ _ ⟨(blk_cell BK411.out 0).trans rfl, (blk_cell BK415.out 0).trans rfl, (blk_cell BK415.out 1).trans rfl, (blk_cell BK415.out 2).trans rfl, (blk_cell BK415.out 3).trans rfl, HS5_, HS6_, HS7_, HS8_⟩ (fun hHeld => ?_)
           clear hK K
           refine norm_ (a' := ?_) ?_ ?_
           rotate_left
           ·
            show Act.put _ (some 39) _ = _
            simp only [Act.put, List.setIfInBounds_toArray, List.set_cons_zero, List.set_cons_succ, i64_w, i32_w]
            rfl
           refine pureS 10 40 HT_.out ?_
           refine done_ (done_of HT_.out (by kernel_rfl)) ?_
           have hcz33_0 := cz1 BK411
           have hfz33_0 := fz1 BK411
           have p418 : 0 ≤ ((ji12) : Int) := of_decide_eq_true (by first | (with_reducible assumption) | assumption)
           have q418 : (ji12) < (x412000_1.length : Int) := of_decide_eq_true (by first | (with_reducible assumption) | assumption)
           obtain ⟨ad418, e418, hx418_0, hx418_1, hx418_2, hx418_3⟩ := at_T48 (Kd.R_reads' HO_412000.out).2.2 (ji12) p418 q418
           (try rw [← Nbq9.out] at hx418_3)
           obtain rfl : ad416 = ad418 := (by injection e418)
           replace p418 := eq_true p418
           replace q418 := eq_true q418
           have p17 : 0 ≤ ((ji12) : Int) := of_decide_eq_true (by first | (with_reducible assumption) | assumption)
           have q17 : ((ji12) : Int) < ((x412000_1.length : Int) : Int) := of_decide_eq_true (by first | (with_reducible assumption) | assumption)
           obtain ⟨go17, co17, eo17, gb17, gl17, cl17, HG17⟩ := Kd.R_form HO_412000.out (by omega)
           (first | cases eo17 | (injection eo17 with ea_ en_ ec_; (first | subst ea_ | (injection ea_ with ea_; subst ea_)); subst ec_; clear en_))
           have GB17 := Aside0.mk gb17
           have GG17 := Aside0.mk HG17
           clear gb17 gl17 HG17
           (first | simp only [add_plain] at hx416_0 | skip)
           (first | simp only [add_plain] at hx416_1 | skip)
           (first | simp only [add_plain] at hx416_2 | skip)
           (first | simp only [add_plain] at hx416_3 | skip)
           (first | simp only [add_plain] at hx418_0 | skip)
           (first | simp only [add_plain] at hx418_1 | skip)
           (first | simp only [add_plain] at hx418_2 | skip)
           (first | simp only [add_plain] at hx418_3 | skip)
           obtain ⟨ce17, hcl17, hM17, hcc17, hfr17⟩ := Kd.R_elem HO_412000.out z48 ((ji12) : Int) p17 q17
           obtain rfl := k48_openM hM17
           have hx17_0 : w32.cell? ⟨go17, ((ji12) : Int).toNat * 4, none⟩ = some (.int .i64 ((rd_T48 x412000_1 (ji12)).f0)) := hcc17 0 _ rfl
           have hx17_1 : w32.cell? ⟨go17, ((ji12) : Int).toNat * 4 + 1, none⟩ = some (.int .i64 ((rd_T48 x412000_1 (ji12)).f1)) := hcc17 1 _ rfl
           have hx17_2 : w32.cell? ⟨go17, ((ji12) : Int).toNat * 4 + 2, none⟩ = some (.int .i64 ((rd_T48 x412000_1 (ji12)).f2)) := hcc17 2 _ rfl
           have hx17_3 : w32.cell? ⟨go17, ((ji12) : Int).toNat * 4 + 3, none⟩ = some (.bool ((rd_T48 x412000_1 (ji12)).f3)) := hcc17 3 _ rfl
           have hf17_0 : w32.frozen? ⟨go17, ((ji12) : Int).toNat * 4, none⟩ = false := hfr17 0
           have hf17_1 : w32.frozen? ⟨go17, ((ji12) : Int).toNat * 4 + 1, none⟩ = false := hfr17 1
           have hf17_2 : w32.frozen? ⟨go17, ((ji12) : Int).toNat * 4 + 2, none⟩ = false := hfr17 2
           have hf17_3 : w32.frozen? ⟨go17, ((ji12) : Int).toNat * 4 + 3, none⟩ = false := hfr17 3
           clear hcl17 hcc17 hfr17 hM17
           replace p17 := eq_true p17
           replace q17 := eq_true q17
           have HX34 := Aside0.mk (show Kd.R k48 48 w32 w.heap.size (fun k_ => k_ ≠ gb415) (.slice (some ⟨go17, 0, none⟩) x412000_1.length co29) x412000_1 from (rr HO_412000.out))
           obtain ⟨ce34, hcl34, hM34, hcc34, hfr34⟩ := Kd.R_elem HX34.out z48 ((ji12) : Int) (of_decide_eq_true (by first | (with_reducible assumption) | assumption)) (by have h_ : ((ji12) : Int) < ((x412000_1.length : Int) : Int) := of_decide_eq_true (by first | (with_reducible assumption) | assumption); first | exact h_ | (have e_ := (Kd.R_reads' HO_412000.out).1; omega) | simpa using h_)
           obtain rfl := k48_openM hM34
           have HP34 := Kd.R_seg HX34.out ((ji12) : Int) (of_decide_eq_true (by first | (with_reducible assumption) | assumption)) (by have h_ : ((ji12) : Int) < ((x412000_1.length : Int) : Int) := of_decide_eq_true (by first | (with_reducible assumption) | assumption); first | exact h_ | (have e_ := (Kd.R_reads' HO_412000.out).1; omega) | simpa using h_) (seg := [.int .i64 (wrap64 (((rd_T48 x412000_1 (ji12)).f1) + 1))]) (j := 1) hcl34 hcc34 (show 2 ≤ 4 from by decide) (x' := (⟨(rd_T48 x412000_1 (ji12)).f0, wrap64 (((rd_T48 x412000_1 (ji12)).f1) + 1), (rd_T48 x412000_1 (ji12)).f2, (rd_T48 x412000_1 (ji12)).f3⟩ : S48)) (k48_mkM _ _ _ (⟨(rd_T48 x412000_1 (ji12)).f0, wrap64 (((rd_T48 x412000_1 (ji12)).f1) + 1), (rd_T48 x412000_1 (ji12)).f2, (rd_T48 x412000_1 (ji12)).f3⟩ : S48) ) (fun _ hk => hk)
           have hx34_1 := hcc34 1 _ rfl
           (try simp only [show (k48).sz = 4 from rfl, Nat.mul_one, Nat.add_zero] at hx34_1)
           have hf34_1 := hfr34 1
           (try simp only [show (k48).sz = 4 from rfl, Nat.mul_one, Nat.add_zero] at hf34_1)
           clear hcl34 hcc34 hfr34 hM34
           try go_wp2_with (first | ((with_reducible refine gate_store (t := 3) (p := 49) rfl ?_); refine store_event (t := 3) (p := 49) (v := ?vo_w35) (w1 := (w32.setCell ⟨go17, ((ji12) : Int).toNat * 4 + 1, none⟩ (.int .i64 (wrap64 (((rd_T48 x412000_1 (ji12)).f1) + 1))))) ?hg ?ho ?hn ?hr ?_; (case ho => rfl); (case hg => rfl); (case hn => rfl); (case hr => first | (go_simp; done) | (go_simp; rfl)); intro w35 hw; have hg : w32.grownBy w35 (some go17) := (by rw [hw]; exact HP34.2); have hp_ : Kd.R k48 48 w35 w.heap.size (fun k_ => k_ ≠ gb415) (.slice (some ⟨go17, 0, none⟩) x412000_1.length co29) y419 := (by rw [hw, Ny419.out]; exact HP34.1); clear HP34; replace BK410 := Aside0.mk (blk_grown (bk BK410) hg (Kd.R_ne HO_412000.out BK410.out (by decide))); replace BK411 := Aside0.mk (blk_grown (bk BK411) hg (Kd.R_ne HO_412000.out BK411.out (by decide))); replace BK414 := Aside0.mk (blk_grown (bk BK414) hg (Kd.R_ne HO_412000.out BK414.out (by decide))); replace BK415 := Aside0.mk (blk_grown (bk BK415) hg (Kd.R_away HO_412000.out (fun _ hk => hk))); replace HO_412000 := Aside0.mk (hp_); replace HB := Aside0.mk ((by rw [hw]; exact below_set (HB.out) GB17.out : Below w.heap.size w w35)); clear hg hw hp_))
           go_roundg k1
           case measure => have := HK1.out; omega
           case rel => exact ⟨(wrap64 (x12_1 + 1)), (y419), (.slice (some ⟨go17, 0, none⟩) x412000_1.length co29), (by first | rfl | (simp; done) | (simp [*]; done)), H', ⟨by have := HK1.out; omega⟩, rm HO_412000 (fun _ hk => trivial), ⟨bk BK410⟩, ⟨bk BK411⟩, ⟨bs4 HB GE410 GE411 GE414 GE415⟩⟩
          ·
           replace c16 := Bool.eq_false_iff.mpr c16
           subst c16
           rw [if_neg (show ¬ (false = true) by decide)] at H
           by_cases c36 : x412000_1.length < 4398046511104
           ·
            rw [if_pos c36] at H
            have LMc36 := Aside0.mk c36
            clear c36
            obtain ⟨y420, hy420⟩ : ∃ y_ : List (S48), y_ = (x412000_1 ++ [(⟨x12_1, 1, (rd_T78 l0 x12_1).f1, (rd_T78 l0 x12_1).f2⟩ : S48)]) := ⟨_, rfl⟩
            replace H : (impl_mapOf.l0 k1 l0 (l0.length : Int) (wrap64 (x12_1 + 1)) y420) = some (r1, r2) := by first | (rw [hy420]; with_reducible exact H) | (have H2_ := (Option.bind_some _ _).symm.trans H; rw [hy420]; with_reducible exact H2_) | (have H2_ := (Option.bind_some _ _).symm.trans H; with_reducible exact H2_) | with_reducible exact H | (rw [hy420]; exact H) | exact H
            have Ny420 := Aside0.mk hy420
            clear hy420
            have H' := Aside0.mk H
            clear H
            have p413 : 0 ≤ (x12_1 : Int) := of_decide_eq_true (by first | (with_reducible assumption) | assumption)
            have q413 : x12_1 < (l0.length : Int) := of_decide_eq_true (by first | (with_reducible assumption) | assumption)
            obtain ⟨ad413, e413, hx413_0, hx413_1, hx413_2⟩ := at_T78 HR0.out x12_1 p413 q413
            (try rw [← Nbq9.out] at hx413_0)
            (try rw [← Nbq9.out] at hx413_2)
            cases e413
            replace hx413_0 := (HB.out.cell (World.block_lt_of_cell? w _ hx413_0)).trans hx413_0
            replace hx413_1 := (HB.out.cell (World.block_lt_of_cell? w _ hx413_1)).trans hx413_1
            replace hx413_2 := (HB.out.cell (World.block_lt_of_cell? w _ hx413_2)).trans hx413_2
            replace p413 := eq_true p413
            replace q413 := eq_true q413
            try go_wp2_with (first | ((with_reducible refine gate_dst (N := 6) rfl ?_); refine box_event ?hg (N := 6) ?hd (cs := #[.bool false, .int .i64 0, .bool false]) (t := 78) ?hr ?_; (case hd => rfl); (case hg => rfl); (case hr => first | (go_simp; done) | (go_simp; rfl)); intro gb414 hg w37 hbox hb; replace HO_412000 := nr HO_412000 hb; have BK414 := Aside0.mk (hbox); have GW414 := Aside0.mk ((by rw [hg]; exact (below_size (bs2 HB GE410 GE411)) : w.heap.size ≤ gb414)); have GE414 := Aside0.mk ((by rw [hg]; exact (below_size (bs2 HB GE410 GE411)) : w.heap.size ≤ gb414)); replace HB := Aside0.mk (below_step (bs2 HB GE410 GE411) hb); have NB410_414 := Aside0.mk ((bn BK410 hg : gb410 ≠ gb414)); have NB414_410 := Aside0.mk ((bm BK410 hg : gb414 ≠ gb410)); replace BK410 := nb BK410 hb; have NB411_414 := Aside0.mk ((bn BK411 hg : gb411 ≠ gb414)); have NB414_411 := Aside0.mk ((bm BK411 hg : gb414 ≠ gb411)); replace BK411 := nb BK411 hb; clear hb hbox hg; have hnb38 := NB414_410.out; have hnc38 := NB410_414.out; have hnb39 := NB414_411.out; have hnc39 := NB411_414.out; obtain ⟨hcz40_0, hcz40_1, hcz40_2⟩ := cz3 BK414; obtain ⟨hfz40_0, hfz40_1, hfz40_2⟩ := fz3 BK414) | ((with_reducible refine gate_dst (N := 7) rfl ?_); refine box_event ?hg (N := 7) ?hd (cs := #[.int .i64 0, .int .i64 0, .int .i64 0, .bool false]) (t := 48) ?hr ?_; (case hd => rfl); (case hg => rfl); (case hr => first | (go_simp; done) | (go_simp; rfl)); intro gb415 hg w41 hbox hb; replace HO_412000 := Aside0.mk (Kd.R_below (Kd.R_elderB (by (with_reducible repeat (first | apply Kd.R_alloc | apply Kd.R_drewN | apply Kd.R_drew)); exact (Kd.R_mono (Kd.R_far (p := ⟨gb414, 2, none⟩) (Kd.R_far (p := ⟨gb414, 1, none⟩) (Kd.R_far (p := ⟨gb414, 0, none⟩) (Kd.R_types HO_412000.out BK414.out (by decide)) (fun _ hk => hk.2) (.bool true)) (fun _ hk => hk.2) (.int .i64 ((rd_T78 l0 x12_1).f1))) (fun _ hk => hk.2) (.bool ((rd_T78 l0 x12_1).f2))) (fun _ h_ => h_.1))) gb415 (Nat.le_of_eq hg.symm)) hb); have BK415 := Aside0.mk (hbox); have GW415 := Aside0.mk ((by rw [hg]; exact (below_size (bs3 HB GE410 GE411 GE414)) : w.heap.size ≤ gb415)); have GE415 := Aside0.mk ((by rw [hg]; exact (below_size (bs3 HB GE410 GE411 GE414)) : w.heap.size ≤ gb415)); replace HB := Aside0.mk (below_step (bs3 HB GE410 GE411 GE414) hb); have NB410_415 := Aside0.mk ((by rw [hg]; exact Nat.ne_of_lt (blk_lt (g := gb410) (o := .cells #[.slice none 0 0] 29 (0, 0)) (bf BK410 NB410_414)) : gb410 ≠ gb415)); have NB415_410 := Aside0.mk ((by rw [hg]; exact Nat.ne_of_gt (blk_lt (g := gb410) (o := .cells #[.slice none 0 0] 29 (0, 0)) (bf BK410 NB410_414)) : gb415 ≠ gb410)); replace BK410 := Aside0.mk (blk_below (bf BK410 NB410_414) hb); have NB411_415 := Aside0.mk ((by rw [hg]; exact Nat.ne_of_lt (blk_lt (g := gb411) (o := .cells #[u412000] 29 (0, 0)) (bf BK411 NB411_414)) : gb411 ≠ gb415)); have NB415_411 := Aside0.mk ((by rw [hg]; exact Nat.ne_of_gt (blk_lt (g := gb411) (o := .cells #[u412000] 29 (0, 0)) (bf BK411 NB411_414)) : gb415 ≠ gb411)); replace BK411 := Aside0.mk (blk_below (bf BK411 NB411_414) hb); have NB414_415 := Aside0.mk ((bnz BK414 hg : gb414 ≠ gb415)); have NB415_414 := Aside0.mk ((bmz BK414 hg : gb415 ≠ gb414)); replace BK414 := Aside0.mk (blk_below (g := gb414) (o := .cells #[.bool true, .int .i64 ((rd_T78 l0 x12_1).f1), .bool ((rd_T78 l0 x12_1).f2)] 78 (0, 0)) (by (with_reducible repeat (first | refine blk_drewN ?_ _ | refine blk_drew ?_ | refine blk_alloc ?_ _)); refine blk_put (cs := #[.bool true, .int .i64 ((rd_T78 l0 x12_1).f1), .bool false]) ?_ 2 _ rfl; (with_reducible repeat (first | refine blk_drewN ?_ _ | refine blk_drew ?_ | refine blk_alloc ?_ _)); refine blk_put (cs := #[.bool true, .int .i64 0, .bool false]) ?_ 1 _ rfl; (with_reducible repeat (first | refine blk_drewN ?_ _ | refine blk_drew ?_ | refine blk_alloc ?_ _)); refine blk_put (cs := #[.bool false, .int .i64 0, .bool false]) ?_ 0 _ rfl; (with_reducible repeat (first | refine blk_drewN ?_ _ | refine blk_drew ?_ | refine blk_alloc ?_ _)); exact BK414.out) hb); clear hb hbox hg; have hnb42 := NB415_410.out; have hnc42 := NB410_415.out; have hnb43 := NB415_411.out; have hnc43 := NB411_415.out; have hnb44 := NB415_414.out; have hnc44 := NB414_415.out; obtain ⟨hcz45_0, hcz45_1, hcz45_2, hcz45_3⟩ := cz4 BK415; obtain ⟨hfz45_0, hfz45_1, hfz45_2, hfz45_3⟩ := fz4 BK415; have hnb46 := NB411_410.out; have hnc46 := NB410_411.out; have hcz47_0 := cz1 BK411; have hfz47_0 := fz1 BK411; obtain ⟨Ao48, co48, eo48⟩ := Kd.R_slice HO_412000.out; subst eo48))
            have n0_ : Aside0 (Kd.R k48 48 ((((w41.setCell ⟨gb415, 0, none⟩ (.int .i64 x12_1)).setCell ⟨gb415, 1, none⟩ (.int .i64 1)).setCell ⟨gb415, 2, none⟩ (.int .i64 ((rd_T78 l0 x12_1).f1))).setCell ⟨gb415, 3, none⟩ (.bool ((rd_T78 l0 x12_1).f2))) w.heap.size (fun k_ => k_ ≠ gb415) (.slice Ao48 x412000_1.length co48) x412000_1) := ⟨by (with_reducible repeat (first | apply Kd.R_alloc | apply Kd.R_drewN | apply Kd.R_drew)); exact Kd.R_mono (Kd.R_far (p := ⟨gb415, 3, none⟩) (Kd.R_far (p := ⟨gb415, 2, none⟩) (Kd.R_far (p := ⟨gb415, 1, none⟩) (Kd.R_far (p := ⟨gb415, 0, none⟩) (Kd.R_mono HO_412000.out (fun k_ hk => (⟨hk, hk.2⟩ : _ ∧ k_ ≠ gb415))) (fun _ hk => hk.2) (.int .i64 x12_1)) (fun _ hk => hk.2) (.int .i64 1)) (fun _ hk => hk.2) (.int .i64 ((rd_T78 l0 x12_1).f1))) (fun _ hk => hk.2) (.bool ((rd_T78 l0 x12_1).f2))) (fun _ hk => hk.1.2)⟩
            have n1_ : Aside0 (((((w41.setCell ⟨gb415, 0, none⟩ (.int .i64 x12_1)).setCell ⟨gb415, 1, none⟩ (.int .i64 1)).setCell ⟨gb415, 2, none⟩ (.int .i64 ((rd_T78 l0 x12_1).f1))).setCell ⟨gb415, 3, none⟩ (.bool ((rd_T78 l0 x12_1).f2))).heap[gb410]? = some (.cells #[.slice none 0 0] 29 (0, 0))) := ⟨bf BK410 NB410_415⟩
            have n2_ : Aside0 (((((w41.setCell ⟨gb415, 0, none⟩ (.int .i64 x12_1)).setCell ⟨gb415, 1, none⟩ (.int .i64 1)).setCell ⟨gb415, 2, none⟩ (.int .i64 ((rd_T78 l0 x12_1).f1))).setCell ⟨gb415, 3, none⟩ (.bool ((rd_T78 l0 x12_1).f2))).heap[gb411]? = some (.cells #[.slice Ao48 x412000_1.length co48] 29 (0, 0))) := ⟨bf BK411 NB411_415⟩
            have n3_ : Aside0 (((((w41.setCell ⟨gb415, 0, none⟩ (.int .i64 x12_1)).setCell ⟨gb415, 1, none⟩ (.int .i64 1)).setCell ⟨gb415, 2, none⟩ (.int .i64 ((rd_T78 l0 x12_1).f1))).setCell ⟨gb415, 3, none⟩ (.bool ((rd_T78 l0 x12_1).f2))).heap[gb414]? = some (.cells #[.bool true, .int .i64 ((rd_T78 l0 x12_1).f1), .bool ((rd_T78 l0 x12_1).f2)] 78 (0, 0))) := ⟨bf BK414 NB414_415⟩
            have n4_ : Aside0 (((((w41.setCell ⟨gb415, 0, none⟩ (.int .i64 x12_1)).setCell ⟨gb415, 1, none⟩ (.int .i64 1)).setCell ⟨gb415, 2, none⟩ (.int .i64 ((rd_T78 l0 x12_1).f1))).setCell ⟨gb415, 3, none⟩ (.bool ((rd_T78 l0 x12_1).f2))).heap[gb415]? = some (.cells #[.int .i64 x12_1, .int .i64 1, .int .i64 ((rd_T78 l0 x12_1).f1), .bool ((rd_T78 l0 x12_1).f2)] 48 (0, 0))) := ⟨by (with_reducible repeat (first | refine blk_drewN ?_ _ | refine blk_drew ?_ | refine blk_alloc ?_ _)); refine blk_put (cs := #[.int .i64 x12_1, .int .i64 1, .int .i64 ((rd_T78 l0 x12_1).f1), .bool false]) ?_ 3 _ rfl; (with_reducible repeat (first | refine blk_drewN ?_ _ | refine blk_drew ?_ | refine blk_alloc ?_ _)); refine blk_put (cs := #[.int .i64 x12_1, .int .i64 1, .int .i64 0, .bool false]) ?_ 2 _ rfl; (with_reducible repeat (first | refine blk_drewN ?_ _ | refine blk_drew ?_ | refine blk_alloc ?_ _)); refine blk_put (cs := #[.int .i64 x12_1, .int .i64 0, .int .i64 0, .bool false]) ?_ 1 _ rfl; (with_reducible repeat (first | refine blk_drewN ?_ _ | refine blk_drew ?_ | refine blk_alloc ?_ _)); refine blk_put (cs := #[.int .i64 0, .int .i64 0, .int .i64 0, .bool false]) ?_ 0 _ rfl; (with_reducible repeat (first | refine blk_drewN ?_ _ | refine blk_drew ?_ | refine blk_alloc ?_ _)); exact BK415.out⟩
            have n5_ : Aside0 (Below w.heap.size w ((((w41.setCell ⟨gb415, 0, none⟩ (.int .i64 x12_1)).setCell ⟨gb415, 1, none⟩ (.int .i64 1)).setCell ⟨gb415, 2, none⟩ (.int .i64 ((rd_T78 l0 x12_1).f1))).setCell ⟨gb415, 3, none⟩ (.bool ((rd_T78 l0 x12_1).f2)))) := ⟨bs4 HB GE410 GE411 GE414 GE415⟩
            (try clear HO_412000)
            (try clear BK410)
            (try clear BK411)
            (try clear BK414)
            (try clear BK415)
            (try clear HB)
            generalize ((((w41.setCell ⟨gb415, 0, none⟩ (.int .i64 x12_1)).setCell ⟨gb415, 1, none⟩ (.int .i64 1)).setCell ⟨gb415, 2, none⟩ (.int .i64 ((rd_T78 l0 x12_1).f1))).setCell ⟨gb415, 3, none⟩ (.bool ((rd_T78 l0 x12_1).f2))) = w49 at n0_ n1_ n2_ n3_ n4_ n5_ ⊢
            have HO_412000 := n0_
            have BK410 := n1_
            have BK411 := n2_
            have BK414 := n3_
            have BK415 := n4_
            have HB := n5_
            clear n0_ n1_ n2_ n3_ n4_ n5_
            have n0_ := Aside0.mk (Kd.R_drew HO_412000.out)
            have n1_ := Aside0.mk (blk_drew BK410.out)
            have n2_ := Aside0.mk (blk_drew BK411.out)
            have n3_ := Aside0.mk (blk_drew BK414.out)
            have n4_ := Aside0.mk (blk_drew BK415.out)
            have n5_ := Aside0.mk (below_drew1 HB.out)
            clear HO_412000
            clear BK410
            clear BK411
            clear BK414
            clear BK415
            clear HB
            have HO_412000 := n0_
            have BK410 := n1_
            have BK411 := n2_
            have BK414 := n3_
            have BK415 := n4_
            have HB := n5_
            clear n0_ n1_ n2_ n3_ n4_ n5_
            have p416 : 0 ≤ ((ji12) : Int) := of_decide_eq_true (by first | (with_reducible assumption) | assumption)
            have q416 : (ji12) < (x412000_1.length : Int) := of_decide_eq_true (by first | (with_reducible assumption) | assumption)
            obtain ⟨ad416, e416, hx416_0, hx416_1, hx416_2, hx416_3⟩ := at_T48 (Kd.R_reads' HO_412000.out).2.2 (ji12) p416 q416
            (try rw [← Nbq9.out] at hx416_3)
            cases e416
            replace p416 := eq_true p416
            replace q416 := eq_true q416
            refine start_ (n := 11) (S := fun w' => w'.cell? ⟨gb411, 0, none⟩ = some (.slice (some ad416) x412000_1.length co48) ∧ w'.cell? ⟨gb415, 0, none⟩ = some (.int .i64 x12_1) ∧ w'.cell? ⟨gb415, 1, none⟩ = some (.int .i64 1) ∧ w'.cell? ⟨gb415, 2, none⟩ = some (.int .i64 ((rd_T78 l0 x12_1).f1)) ∧ w'.cell? ⟨gb415, 3, none⟩ = some (.bool ((rd_T78 l0 x12_1).f2)) ∧ w'.cell? (ad416.add (((ji12)).toNat * 4)) = some (.int .i64 ((rd_T48 x412000_1 (ji12)).f0)) ∧ w'.cell? ⟨(ad416.add (((ji12)).toNat * 4)).block, (ad416.add (((ji12)).toNat * 4)).off + 1, none⟩ = some (.int .i64 ((rd_T48 x412000_1 (ji12)).f1)) ∧ w'.cell? ⟨(ad416.add (((ji12)).toNat * 4)).block, (ad416.add (((ji12)).toNat * 4)).off + 2, none⟩ = some (.int .i64 ((rd_T48 x412000_1 (ji12)).f2)) ∧ w'.cell? ⟨(ad416.add (((ji12)).toNat * 4)).block, (ad416.add (((ji12)).toNat * 4)).off + 3, none⟩ = some (.bool ((rd_T48 x412000_1 (ji12)).f3))) (ds := []) #[false, false, false, false, false, false, false, false, false, false, false] (by kernel_rfl) rfl rfl ⟨(blk_cell BK411.out 0).trans rfl, (blk_cell BK415.out 0).trans rfl, (blk_cell BK415.out 1).trans rfl, (blk_cell BK415.out 2).trans rfl, (blk_cell BK415.out 3).trans rfl, hx416_0, hx416_1, hx416_2, hx416_3⟩ (fun hHeld => ?_); refine with_tabW impl_mapOf.tab8 impl_mapOf.bits8 (fun HT_ HW_ => ?_)
            generalize w49.drew = w50 at HO_412000 BK410 BK411 BK414 BK415 HB hx416_0 hx416_1 hx416_2 hx416_3 hHeld ⊢
            refine pureS 0 30 HT_.out ?_
            refine pureS 1 31 HT_.out ?_
            refine pureS 2 32 HT_.out ?_
            refine pureS 3 33 HT_.out ?_
            refine pureS 5 35 HT_.out ?_
            refine takeS 4 34 HT_.out HW_.out hHeld (hr := by rintro w' ⟨s0, s1, s2, s3, s4, s5, s6, s7, s8⟩; go_simp; with_reducible rfl) (h := ?_)
            refine pureS 6 36 HT_.out ?_
            refine takeS 7 37 HT_.out HW_.out hHeld (hr := by rintro w' ⟨s0, s1, s2, s3, s4, s5, s6, s7, s8⟩; go_simp; with_reducible rfl) (h := ?_)
            refine takeS 8 38 HT_.out HW_.out hHeld (hr := by rintro w' ⟨s0, s1, s2, s3, s4, s5, s6, s7, s8⟩; go_simp; with_reducible rfl) (h := ?_)
            refine one_ (i := 9) (N := some 39) #[true, true, true, true, true, true, true, true, true, true, false] rfl rfl (one_of HT_.out (by kernel_rfl)) (by decide) (fun K hK => ?_)
            refine goes_ Try.func52 (by kernel_rfl) rfl #[.agg #[.int .i64 ((rd_T48 x412000_1 (ji12)).f0), .int .i64 ((rd_T48 x412000_1 (ji12)).f1), .int .i64 ((rd_T48 x412000_1 (ji12)).f2), .bool ((rd_T48 x412000_1 (ji12)).f3)], .agg #[.int .i64 x12_1, .int .i64 1, .int .i64 ((rd_T78 l0 x12_1).f1), .bool ((rd_T78 l0 x12_1).f2)]] (by rfl) rfl rfl (by (try simp only [List.map_toArray, List.map_cons, List.map_nil]); first | done | (simp only [hji12]; rfl) | rfl | (simp only [List.length_drop, List.length_take]; rfl)) ?_
            with_reducible refine (impl_continues.calls ((rd_T48 x412000_1 (ji12)).f0) ((rd_T48 x412000_1 (ji12)).f1) ((rd_T48 x412000_1 (ji12)).f2) ((rd_T48 x412000_1 (ji12)).f3) x12_1 1 ((rd_T78 l0 x12_1).f1) ((rd_T78 l0 x12_1).f2) false _ A15.out).mono ?_
            rintro e w51 ⟨rfl, hb⟩
            have HS5_ := (hb.cell (World.block_lt_of_cell? _ _ (hHeld.2.2.2.2.2.1))).trans (hHeld.2.2.2.2.2.1)
            have HS6_ := (hb.cell (World.block_lt_of_cell? _ _ (hHeld.2.2.2.2.2.2.1))).trans (hHeld.2.2.2.2.2.2.1)
            have HS7_ := (hb.cell (World.block_lt_of_cell? _ _ (hHeld.2.2.2.2.2.2.2.1))).trans (hHeld.2.2.2.2.2.2.2.1)
            have HS8_ := (hb.cell (World.block_lt_of_cell? _ _ (hHeld.2.2.2.2.2.2.2.2))).trans (hHeld.2.2.2.2.2.2.2.2)
            refine ⟨_, rfl, ?_⟩
            have n0_ := Aside0.mk (Kd.R_below (rr HO_412000.out) hb)
            have n1_ := Aside0.mk (bb BK410 hb)
            have n2_ := Aside0.mk (bb BK411 hb)
            have n3_ := Aside0.mk (bb BK414 hb)
            have n4_ := Aside0.mk (bb BK415 hb)
            have n5_ := Aside0.mk (below_step (bs4 HB GE410 GE411 GE414 GE415) hb)
            clear HO_412000
            clear BK410
            clear BK411
            clear BK414
            clear BK415
            clear HB
            have HO_412000 := n0_
            have BK410 := n1_
            have BK411 := n2_
            have BK414 := n3_
            have BK415 := n4_
            have HB := n5_
            clear n0_ n1_ n2_ n3_ n4_ n5_
            (try clear hb)
            (try clear hb2)
            (try clear hk)
            (try clear hi)
            refine hK.out _ _ ⟨(blk_cell BK411.out 0).trans rfl, (blk_cell BK415.out 0).trans rfl, (blk_cell BK415.out 1).trans rfl, (blk_cell BK415.out 2).trans rfl, (blk_cell BK415.out 3).trans rfl, HS5_, HS6_, HS7_, HS8_⟩ (fun hHeld => ?_)
            clear hK K
            refine norm_ (a' := ?_) ?_ ?_
            rotate_left
            ·
             show Act.put _ (some 39) _ = _
             simp only [Act.put, List.setIfInBounds_toArray, List.set_cons_zero, List.set_cons_succ, i64_w, i32_w]
             rfl
            refine pureS 10 40 HT_.out ?_
            refine done_ (done_of HT_.out (by kernel_rfl)) ?_
            have hcz52_0 := cz1 BK411
            have hfz52_0 := fz1 BK411
            obtain ⟨hcz53_0, hcz53_1, hcz53_2, hcz53_3⟩ := cz4 BK415
            obtain ⟨hfz53_0, hfz53_1, hfz53_2, hfz53_3⟩ := fz4 BK415
            try go_wp2_with (first | ((with_reducible refine gate_builtin (b := .append) (xs := #[.tmp 51, .tmp 53]) rfl ?_); at_builtin; refine Kd.R_append k48 (w0 := w) w.heap.size rfl (.tmp 51) (.tmp 53) 27 48 (.agg #[(.int .i64 0), (.int .i64 0), (.int .i64 0), (.bool false)]) 32 rfl Try.underlying27 info48 rfl (by decide) (by omega) (.slice (some ad416) x412000_1.length co48) x412000_1 (⟨x12_1, 1, (rd_T78 l0 x12_1).f1, (rd_T78 l0 x12_1).f2⟩ : S48) [.int .i64 x12_1, .int .i64 1, .int .i64 ((rd_T78 l0 x12_1).f1), .bool ((rd_T78 l0 x12_1).f2)] (fun k_ => k_ ≠ gb415) (fun _ => False) rfl rfl ?aP (fun _ hk => hk.elim) ?aF ?aO ?aB ?aS ?aL ?_; (case aP => exact k48_mkM _ _ _ (⟨x12_1, 1, (rd_T78 l0 x12_1).f1, (rd_T78 l0 x12_1).f2⟩ : S48)); (case aB => exact (bs4 HB GE410 GE411 GE414 GE415)); (case aF => exact (fun k_ hk => Kd.freshB (bk BK415) k_ hk)); (case aO => exact (rr HO_412000.out)); (case aS => exact (below_size (bs4 HB GE410 GE411 GE414 GE415))); (case aL => have := LMc36.out; omega); intro v421 w54 ho hb hg hat; rw [← Ny420.out] at ho; replace BK410 := Aside0.mk (blk_grown (bk BK410) hg (Kd.R_ne HO_412000.out BK410.out (by decide))); replace BK411 := Aside0.mk (blk_grown (bk BK411) hg (Kd.R_ne HO_412000.out BK411.out (by decide))); replace BK414 := Aside0.mk (blk_grown (bk BK414) hg (Kd.R_ne HO_412000.out BK414.out (by decide))); replace BK415 := Aside0.mk (blk_grown (bk BK415) hg (Kd.R_away HO_412000.out (fun _ hk => hk))); replace HB := Aside0.mk (hb); have HO422 := Aside0.mk (ho); clear HO_412000; clear ho hb hg hat; obtain ⟨Ao55, co55, eo55⟩ := Kd.R_slice HO422.out; subst eo55; have hcz56_0 := cz1 BK411; have hfz56_0 := fz1 BK411))
            go_roundg k1
            case measure => have := HK1.out; omega
            case rel => exact ⟨(wrap64 (x12_1 + 1)), (y420), (.slice Ao55 y420.length co55), (by first | rfl | (simp; done) | (simp [*]; done)), H', ⟨by have := HK1.out; omega⟩, ⟨by (with_reducible repeat (first | apply Kd.R_alloc | apply Kd.R_drewN | apply Kd.R_drew)); exact Kd.R_mono (Kd.R_far (p := ⟨gb411, 0, none⟩) (Kd.R_types HO422.out BK411.out (by decide)) (fun _ hk => hk.2) (.slice Ao55 y420.length co55)) (fun _ hk => trivial)⟩, ⟨bf BK410 NB410_411⟩, ⟨by (with_reducible repeat (first | refine blk_drewN ?_ _ | refine blk_drew ?_ | refine blk_alloc ?_ _)); refine blk_put (cs := #[.slice (some ad416) x412000_1.length co48]) ?_ 0 _ rfl; (with_reducible repeat (first | refine blk_drewN ?_ _ | refine blk_drew ?_ | refine blk_alloc ?_ _)); exact BK411.out⟩, ⟨bs4 HB GE410 GE411 GE414 GE415⟩⟩
           ·
            rw [if_neg c36] at H
            exact absurd H (by simp)
         ·
          rw [if_neg c14] at H
          exact absurd H (by simp)
        ·
         rw [if_neg c13] at H
         exact absurd H (by simp)
       ·
        rw [if_neg c11] at H
        have c11b0 : decide (0 ≤ (wrap64 ((x412000_1.length : Int) - 1))) = false := decide_eq_false c11
        clear c11
        by_cases c57 : x412000_1.length < 4398046511104
        ·
         rw [if_pos c57] at H
         have LMc57 := Aside0.mk c57
         clear c57
         obtain ⟨y423, hy423⟩ : ∃ y_ : List (S48), y_ = (x412000_1 ++ [(⟨x12_1, 1, (rd_T78 l0 x12_1).f1, (rd_T78 l0 x12_1).f2⟩ : S48)]) := ⟨_, rfl⟩
         replace H : (impl_mapOf.l0 k1 l0 (l0.length : Int) (wrap64 (x12_1 + 1)) y423) = some (r1, r2) := by first | (rw [hy423]; with_reducible exact H) | (have H2_ := (Option.bind_some _ _).symm.trans H; rw [hy423]; with_reducible exact H2_) | (have H2_ := (Option.bind_some _ _).symm.trans H; with_reducible exact H2_) | with_reducible exact H | (rw [hy423]; exact H) | exact H
         have Ny423 := Aside0.mk hy423
         clear hy423
         have H' := Aside0.mk H
         clear H
         have p413 : 0 ≤ (x12_1 : Int) := of_decide_eq_true (by first | (with_reducible assumption) | assumption)
         have q413 : x12_1 < (l0.length : Int) := of_decide_eq_true (by first | (with_reducible assumption) | assumption)
         obtain ⟨ad413, e413, hx413_0, hx413_1, hx413_2⟩ := at_T78 HR0.out x12_1 p413 q413
         (try rw [← Nbq9.out] at hx413_0)
         (try rw [← Nbq9.out] at hx413_2)
         cases e413
         replace hx413_0 := (HB.out.cell (World.block_lt_of_cell? w _ hx413_0)).trans hx413_0
         replace hx413_1 := (HB.out.cell (World.block_lt_of_cell? w _ hx413_1)).trans hx413_1
         replace hx413_2 := (HB.out.cell (World.block_lt_of_cell? w _ hx413_2)).trans hx413_2
         replace p413 := eq_true p413
         replace q413 := eq_true q413
         try go_wp2_with (first | ((with_reducible refine gate_dst (N := 6) rfl ?_); refine box_event ?hg (N := 6) ?hd (cs := #[.bool false, .int .i64 0, .bool false]) (t := 78) ?hr ?_; (case hd => rfl); (case hg => rfl); (case hr => first | (go_simp; done) | (go_simp; rfl)); intro gb414 hg w58 hbox hb; replace HO_412000 := nr HO_412000 hb; have BK414 := Aside0.mk (hbox); have GW414 := Aside0.mk ((by rw [hg]; exact (below_size (bs2 HB GE410 GE411)) : w.heap.size ≤ gb414)); have GE414 := Aside0.mk ((by rw [hg]; exact (below_size (bs2 HB GE410 GE411)) : w.heap.size ≤ gb414)); replace HB := Aside0.mk (below_step (bs2 HB GE410 GE411) hb); have NB410_414 := Aside0.mk ((bn BK410 hg : gb410 ≠ gb414)); have NB414_410 := Aside0.mk ((bm BK410 hg : gb414 ≠ gb410)); replace BK410 := nb BK410 hb; have NB411_414 := Aside0.mk ((bn BK411 hg : gb411 ≠ gb414)); have NB414_411 := Aside0.mk ((bm BK411 hg : gb414 ≠ gb411)); replace BK411 := nb BK411 hb; clear hb hbox hg; have hnb59 := NB414_410.out; have hnc59 := NB410_414.out; have hnb60 := NB414_411.out; have hnc60 := NB411_414.out; obtain ⟨hcz61_0, hcz61_1, hcz61_2⟩ := cz3 BK414; obtain ⟨hfz61_0, hfz61_1, hfz61_2⟩ := fz3 BK414) | ((with_reducible refine gate_dst (N := 7) rfl ?_); refine box_event ?hg (N := 7) ?hd (cs := #[.int .i64 0, .int .i64 0, .int .i64 0, .bool false]) (t := 48) ?hr ?_; (case hd => rfl); (case hg => rfl); (case hr => first | (go_simp; done) | (go_simp; rfl)); intro gb415 hg w62 hbox hb; replace HO_412000 := Aside0.mk (Kd.R_below (Kd.R_elderB (by (with_reducible repeat (first | apply Kd.R_alloc | apply Kd.R_drewN | apply Kd.R_drew)); exact (Kd.R_mono (Kd.R_far (p := ⟨gb414, 2, none⟩) (Kd.R_far (p := ⟨gb414, 1, none⟩) (Kd.R_far (p := ⟨gb414, 0, none⟩) (Kd.R_types HO_412000.out BK414.out (by decide)) (fun _ hk => hk.2) (.bool true)) (fun _ hk => hk.2) (.int .i64 ((rd_T78 l0 x12_1).f1))) (fun _ hk => hk.2) (.bool ((rd_T78 l0 x12_1).f2))) (fun _ h_ => h_.1))) gb415 (Nat.le_of_eq hg.symm)) hb); have BK415 := Aside0.mk (hbox); have GW415 := Aside0.mk ((by rw [hg]; exact (below_size (bs3 HB GE410 GE411 GE414)) : w.heap.size ≤ gb415)); have GE415 := Aside0.mk ((by rw [hg]; exact (below_size (bs3 HB GE410 GE411 GE414)) : w.heap.size ≤ gb415)); replace HB := Aside0.mk (below_step (bs3 HB GE410 GE411 GE414) hb); have NB410_415 := Aside0.mk ((by rw [hg]; exact Nat.ne_of_lt (blk_lt (g := gb410) (o := .cells #[.slice none 0 0] 29 (0, 0)) (bf BK410 NB410_414)) : gb410 ≠ gb415)); have NB415_410 := Aside0.mk ((by rw [hg]; exact Nat.ne_of_gt (blk_lt (g := gb410) (o := .cells #[.slice none 0 0] 29 (0, 0)) (bf BK410 NB410_414)) : gb415 ≠ gb410)); replace BK410 := Aside0.mk (blk_below (bf BK410 NB410_414) hb); have NB411_415 := Aside0.mk ((by rw [hg]; exact Nat.ne_of_lt (blk_lt (g := gb411) (o := .cells #[u412000] 29 (0, 0)) (bf BK411 NB411_414)) : gb411 ≠ gb415)); have NB415_411 := Aside0.mk ((by rw [hg]; exact Nat.ne_of_gt (blk_lt (g := gb411) (o := .cells #[u412000] 29 (0, 0)) (bf BK411 NB411_414)) : gb415 ≠ gb411)); replace BK411 := Aside0.mk (blk_below (bf BK411 NB411_414) hb); have NB414_415 := Aside0.mk ((bnz BK414 hg : gb414 ≠ gb415)); have NB415_414 := Aside0.mk ((bmz BK414 hg : gb415 ≠ gb414)); replace BK414 := Aside0.mk (blk_below (g := gb414) (o := .cells #[.bool true, .int .i64 ((rd_T78 l0 x12_1).f1), .bool ((rd_T78 l0 x12_1).f2)] 78 (0, 0)) (by (with_reducible repeat (first | refine blk_drewN ?_ _ | refine blk_drew ?_ | refine blk_alloc ?_ _)); refine blk_put (cs := #[.bool true, .int .i64 ((rd_T78 l0 x12_1).f1), .bool false]) ?_ 2 _ rfl; (with_reducible repeat (first | refine blk_drewN ?_ _ | refine blk_drew ?_ | refine blk_alloc ?_ _)); refine blk_put (cs := #[.bool true, .int .i64 0, .bool false]) ?_ 1 _ rfl; (with_reducible repeat (first | refine blk_drewN ?_ _ | refine blk_drew ?_ | refine blk_alloc ?_ _)); refine blk_put (cs := #[.bool false, .int .i64 0, .bool false]) ?_ 0 _ rfl; (with_reducible repeat (first | refine blk_drewN ?_ _ | refine blk_drew ?_ | refine blk_alloc ?_ _)); exact BK414.out) hb); clear hb hbox hg; have hnb63 := NB415_410.out; have hnc63 := NB410_415.out; have hnb64 := NB415_411.out; have hnc64 := NB411_415.out; have hnb65 := NB415_414.out; have hnc65 := NB414_415.out; obtain ⟨hcz66_0, hcz66_1, hcz66_2, hcz66_3⟩ := cz4 BK415; obtain ⟨hfz66_0, hfz66_1, hfz66_2, hfz66_3⟩ := fz4 BK415; have hnb67 := NB411_410.out; have hnc67 := NB410_411.out; have hcz68_0 := cz1 BK411; have hfz68_0 := fz1 BK411; obtain ⟨Ao69, co69, eo69⟩ := Kd.R_slice HO_412000.out; subst eo69))
         have n0_ : Aside0 (Kd.R k48 48 ((((w62.setCell ⟨gb415, 0, none⟩ (.int .i64 x12_1)).setCell ⟨gb415, 1, none⟩ (.int .i64 1)).setCell ⟨gb415, 2, none⟩ (.int .i64 ((rd_T78 l0 x12_1).f1))).setCell ⟨gb415, 3, none⟩ (.bool ((rd_T78 l0 x12_1).f2))) w.heap.size (fun k_ => k_ ≠ gb415) (.slice Ao69 x412000_1.length co69) x412000_1) := ⟨by (with_reducible repeat (first | apply Kd.R_alloc | apply Kd.R_drewN | apply Kd.R_drew)); exact Kd.R_mono (Kd.R_far (p := ⟨gb415, 3, none⟩) (Kd.R_far (p := ⟨gb415, 2, none⟩) (Kd.R_far (p := ⟨gb415, 1, none⟩) (Kd.R_far (p := ⟨gb415, 0, none⟩) (Kd.R_mono HO_412000.out (fun k_ hk => (⟨hk, hk.2⟩ : _ ∧ k_ ≠ gb415))) (fun _ hk => hk.2) (.int .i64 x12_1)) (fun _ hk => hk.2) (.int .i64 1)) (fun _ hk => hk.2) (.int .i64 ((rd_T78 l0 x12_1).f1))) (fun _ hk => hk.2) (.bool ((rd_T78 l0 x12_1).f2))) (fun _ hk => hk.1.2)⟩
         have n1_ : Aside0 (((((w62.setCell ⟨gb415, 0, none⟩ (.int .i64 x12_1)).setCell ⟨gb415, 1, none⟩ (.int .i64 1)).setCell ⟨gb415, 2, none⟩ (.int .i64 ((rd_T78 l0 x12_1).f1))).setCell ⟨gb415, 3, none⟩ (.bool ((rd_T78 l0 x12_1).f2))).heap[gb410]? = some (.cells #[.slice none 0 0] 29 (0, 0))) := ⟨bf BK410 NB410_415⟩
         have n2_ : Aside0 (((((w62.setCell ⟨gb415, 0, none⟩ (.int .i64 x12_1)).setCell ⟨gb415, 1, none⟩ (.int .i64 1)).setCell ⟨gb415, 2, none⟩ (.int .i64 ((rd_T78 l0 x12_1).f1))).setCell ⟨gb415, 3, none⟩ (.bool ((rd_T78 l0 x12_1).f2))).heap[gb411]? = some (.cells #[.slice Ao69 x412000_1.length co69] 29 (0, 0))) := ⟨bf BK411 NB411_415⟩
         have n3_ : Aside0 (((((w62.setCell ⟨gb415, 0, none⟩ (.int .i64 x12_1)).setCell ⟨gb415, 1, none⟩ (.int .i64 1)).setCell ⟨gb415, 2, none⟩ (.int .i64 ((rd_T78 l0 x12_1).f1))).setCell ⟨gb415, 3, none⟩ (.bool ((rd_T78 l0 x12_1).f2))).heap[gb414]? = some (.cells #[.bool true, .int .i64 ((rd_T78 l0 x12_1).f1), .bool ((rd_T78 l0 x12_1).f2)] 78 (0, 0))) := ⟨bf BK414 NB414_415⟩
         have n4_ : Aside0 (((((w62.setCell ⟨gb415, 0, none⟩ (.int .i64 x12_1)).setCell ⟨gb415, 1, none⟩ (.int .i64 1)).setCell ⟨gb415, 2, none⟩ (.int .i64 ((rd_T78 l0 x12_1).f1))).setCell ⟨gb415, 3, none⟩ (.bool ((rd_T78 l0 x12_1).f2))).heap[gb415]? = some (.cells #[.int .i64 x12_1, .int .i64 1, .int .i64 ((rd_T78 l0 x12_1).f1), .bool ((rd_T78 l0 x12_1).f2)] 48 (0, 0))) := ⟨by (with_reducible repeat (first | refine blk_drewN ?_ _ | refine blk_drew ?_ | refine blk_alloc ?_ _)); refine blk_put (cs := #[.int .i64 x12_1, .int .i64 1, .int .i64 ((rd_T78 l0 x12_1).f1), .bool false]) ?_ 3 _ rfl; (with_reducible repeat (first | refine blk_drewN ?_ _ | refine blk_drew ?_ | refine blk_alloc ?_ _)); refine blk_put (cs := #[.int .i64 x12_1, .int .i64 1, .int .i64 0, .bool false]) ?_ 2 _ rfl; (with_reducible repeat (first | refine blk_drewN ?_ _ | refine blk_drew ?_ | refine blk_alloc ?_ _)); refine blk_put (cs := #[.int .i64 x12_1, .int .i64 0, .int .i64 0, .bool false]) ?_ 1 _ rfl; (with_reducible repeat (first | refine blk_drewN ?_ _ | refine blk_drew ?_ | refine blk_alloc ?_ _)); refine blk_put (cs := #[.int .i64 0, .int .i64 0, .int .i64 0, .bool false]) ?_ 0 _ rfl; (with_reducible repeat (first | refine blk_drewN ?_ _ | refine blk_drew ?_ | refine blk_alloc ?_ _)); exact BK415.out⟩
         have n5_ : Aside0 (Below w.heap.size w ((((w62.setCell ⟨gb415, 0, none⟩ (.int .i64 x12_1)).setCell ⟨gb415, 1, none⟩ (.int .i64 1)).setCell ⟨gb415, 2, none⟩ (.int .i64 ((rd_T78 l0 x12_1).f1))).setCell ⟨gb415, 3, none⟩ (.bool ((rd_T78 l0 x12_1).f2)))) := ⟨bs4 HB GE410 GE411 GE414 GE415⟩
         (try clear HO_412000)
         (try clear BK410)
         (try clear BK411)
         (try clear BK414)
         (try clear BK415)
         (try clear HB)
         generalize ((((w62.setCell ⟨gb415, 0, none⟩ (.int .i64 x12_1)).setCell ⟨gb415, 1, none⟩ (.int .i64 1)).setCell ⟨gb415, 2, none⟩ (.int .i64 ((rd_T78 l0 x12_1).f1))).setCell ⟨gb415, 3, none⟩ (.bool ((rd_T78 l0 x12_1).f2))) = w70 at n0_ n1_ n2_ n3_ n4_ n5_ ⊢
         have HO_412000 := n0_
         have BK410 := n1_
         have BK411 := n2_
         have BK414 := n3_
         have BK415 := n4_
         have HB := n5_
         clear n0_ n1_ n2_ n3_ n4_ n5_
         have n0_ := Aside0.mk (Kd.R_drew HO_412000.out)
         have n1_ := Aside0.mk (blk_drew BK410.out)
         have n2_ := Aside0.mk (blk_drew BK411.out)
         have n3_ := Aside0.mk (blk_drew BK414.out)
         have n4_ := Aside0.mk (blk_drew BK415.out)
         have n5_ := Aside0.mk (below_drew1 HB.out)
         clear HO_412000
         clear BK410
         clear BK411
         clear BK414
         clear BK415
         clear HB
         have HO_412000 := n0_
         have BK410 := n1_
         have BK411 := n2_
         have BK414 := n3_
         have BK415 := n4_
         have HB := n5_
         clear n0_ n1_ n2_ n3_ n4_ n5_
         refine start_ (n := 11) (S := fun w' => True) (ds := []) #[false, false, false, false, false, false, false, false, false, false, false] (by kernel_rfl) rfl rfl trivial (fun hHeld => ?_); refine with_tabW impl_mapOf.tab8 impl_mapOf.bits8 (fun HT_ HW_ => ?_)
         generalize w70.drew = w71 at HO_412000 BK410 BK411 BK414 BK415 HB hHeld ⊢
         refine pureS 0 30 HT_.out ?_
         refine pureS 1 31 HT_.out ?_
         refine pureS 2 32 HT_.out ?_
         refine pureU 3 33 HT_.out ?_
         refine pureU 4 34 HT_.out ?_
         refine pureU 5 35 HT_.out ?_
         refine pureU 6 36 HT_.out ?_
         refine pureU 7 37 HT_.out ?_
         refine pureU 8 38 HT_.out ?_
         refine pureU 9 39 HT_.out ?_
         refine pureS 10 40 HT_.out ?_
         refine done_ (done_of HT_.out (by kernel_rfl)) ?_
         have hcz72_0 := cz1 BK411
         have hfz72_0 := fz1 BK411
         obtain ⟨hcz73_0, hcz73_1, hcz73_2, hcz73_3⟩ := cz4 BK415
         obtain ⟨hfz73_0, hfz73_1, hfz73_2, hfz73_3⟩ := fz4 BK415
         try go_wp2_with (first | ((with_reducible refine gate_builtin (b := .append) (xs := #[.tmp 51, .tmp 53]) rfl ?_); at_builtin; refine Kd.R_append k48 (w0 := w) w.heap.size rfl (.tmp 51) (.tmp 53) 27 48 (.agg #[(.int .i64 0), (.int .i64 0), (.int .i64 0), (.bool false)]) 32 rfl Try.underlying27 info48 rfl (by decide) (by omega) (.slice Ao69 x412000_1.length co69) x412000_1 (⟨x12_1, 1, (rd_T78 l0 x12_1).f1, (rd_T78 l0 x12_1).f2⟩ : S48) [.int .i64 x12_1, .int .i64 1, .int .i64 ((rd_T78 l0 x12_1).f1), .bool ((rd_T78 l0 x12_1).f2)] (fun k_ => k_ ≠ gb415) (fun _ => False) rfl rfl ?aP (fun _ hk => hk.elim) ?aF ?aO ?aB ?aS ?aL ?_; (case aP => exact k48_mkM _ _ _ (⟨x12_1, 1, (rd_T78 l0 x12_1).f1, (rd_T78 l0 x12_1).f2⟩ : S48)); (case aB => exact (bs4 HB GE410 GE411 GE414 GE415)); (case aF => exact (fun k_ hk => Kd.freshB (bk BK415) k_ hk)); (case aO => exact (rr HO_412000.out)); (case aS => exact (below_size (bs4 HB GE410 GE411 GE414 GE415))); (case aL => have := LMc57.out; omega); intro v424 w74 ho hb hg hat; rw [← Ny423.out] at ho; replace BK410 := Aside0.mk (blk_grown (bk BK410) hg (Kd.R_ne HO_412000.out BK410.out (by decide))); replace BK411 := Aside0.mk (blk_grown (bk BK411) hg (Kd.R_ne HO_412000.out BK411.out (by decide))); replace BK414 := Aside0.mk (blk_grown (bk BK414) hg (Kd.R_ne HO_412000.out BK414.out (by decide))); replace BK415 := Aside0.mk (blk_grown (bk BK415) hg (Kd.R_away HO_412000.out (fun _ hk => hk))); replace HB := Aside0.mk (hb); have HO425 := Aside0.mk (ho); clear HO_412000; clear ho hb hg hat; obtain ⟨Ao75, co75, eo75⟩ := Kd.R_slice HO425.out; subst eo75; have hcz76_0 := cz1 BK411; have hfz76_0 := fz1 BK411))
         go_roundg k1
         case measure => have := HK1.out; omega
         case rel => exact ⟨(wrap64 (x12_1 + 1)), (y423), (.slice Ao75 y423.length co75), (by first | rfl | (simp; done) | (simp [*]; done)), H', ⟨by have := HK1.out; omega⟩, ⟨by (with_reducible repeat (first | apply Kd.R_alloc | apply Kd.R_drewN | apply Kd.R_drew)); exact Kd.R_mono (Kd.R_far (p := ⟨gb411, 0, none⟩) (Kd.R_types HO425.out BK411.out (by decide)) (fun _ hk => hk.2) (.slice Ao75 y423.length co75)) (fun _ hk => trivial)⟩, ⟨bf BK410 NB410_411⟩, ⟨by (with_reducible repeat (first | refine blk_drewN ?_ _ | refine blk_drew ?_ | refine blk_alloc ?_ _)); refine blk_put (cs := #[.slice Ao69 x412000_1.length co69]) ?_ 0 _ rfl; (with_reducible repeat (first | refine blk_drewN ?_ _ | refine blk_drew ?_ | refine blk_alloc ?_ _)); exact BK411.out⟩, ⟨bs4 HB GE410 GE411 GE414 GE415⟩⟩
        ·
         rw [if_neg c57] at H
         exact absurd H (by simp)
      ·
       replace c10 := Bool.eq_false_iff.mpr c10
       subst c10
       rw [if_neg (show ¬ (false = true) by decide)] at H
       have H' := Aside0.mk H
       clear H
       have p413 : 0 ≤ (x12_1 : Int) := of_decide_eq_true (by first | (with_reducible assumption) | assumption)
       have q413 : x12_1 < (l0.length : Int) := of_decide_eq_true (by first | (with_reducible assumption) | assumption)
       obtain ⟨ad413, e413, hx413_0, hx413_1, hx413_2⟩ := at_T78 HR0.out x12_1 p413 q413
       (try rw [← Nbq9.out] at hx413_0)
       (try rw [← Nbq9.out] at hx413_2)
       cases e413
       replace hx413_0 := (HB.out.cell (World.block_lt_of_cell? w _ hx413_0)).trans hx413_0
       replace hx413_1 := (HB.out.cell (World.block_lt_of_cell? w _ hx413_1)).trans hx413_1
       replace hx413_2 := (HB.out.cell (World.block_lt_of_cell? w _ hx413_2)).trans hx413_2
       replace p413 := eq_true p413
       replace q413 := eq_true q413
       go_wp2_with (first | ((with_reducible refine gate_dst (N := 6) rfl ?_); refine box_event ?hg (N := 6) ?hd (cs := #[.bool false, .int .i64 0, .bool false]) (t := 78) ?hr ?_; (case hd => rfl); (case hg => rfl); (case hr => first | (go_simp; done) | (go_simp; rfl)); intro gb414 hg w77 hbox hb; replace HO_412000 := nr HO_412000 hb; have BK414 := Aside0.mk (hbox); have GW414 := Aside0.mk ((by rw [hg]; exact (below_size (bs2 HB GE410 GE411)) : w.heap.size ≤ gb414)); have GE414 := Aside0.mk ((by rw [hg]; exact (below_size (bs2 HB GE410 GE411)) : w.heap.size ≤ gb414)); replace HB := Aside0.mk (below_step (bs2 HB GE410 GE411) hb); have NB410_414 := Aside0.mk ((bn BK410 hg : gb410 ≠ gb414)); have NB414_410 := Aside0.mk ((bm BK410 hg : gb414 ≠ gb410)); replace BK410 := nb BK410 hb; have NB411_414 := Aside0.mk ((bn BK411 hg : gb411 ≠ gb414)); have NB414_411 := Aside0.mk ((bm BK411 hg : gb414 ≠ gb411)); replace BK411 := nb BK411 hb; clear hb hbox hg; have hnb78 := NB414_410.out; have hnc78 := NB410_414.out; have hnb79 := NB414_411.out; have hnc79 := NB411_414.out; obtain ⟨hcz80_0, hcz80_1, hcz80_2⟩ := cz3 BK414; obtain ⟨hfz80_0, hfz80_1, hfz80_2⟩ := fz3 BK414))
       go_roundg k1
       case measure => have := HK1.out; omega
       case rel => exact ⟨(wrap64 (x12_1 + 1)), (x412000_1), (u412000), (by first | rfl | (simp; done) | (simp [*]; done)), H', ⟨by have := HK1.out; omega⟩, ⟨by (with_reducible repeat (first | apply Kd.R_alloc | apply Kd.R_drewN | apply Kd.R_drew)); exact Kd.R_mono (Kd.R_far (p := ⟨gb414, 2, none⟩) (Kd.R_far (p := ⟨gb414, 1, none⟩) (Kd.R_far (p := ⟨gb414, 0, none⟩) (Kd.R_types HO_412000.out BK414.out (by decide)) (fun _ hk => hk.2) (.bool false)) (fun _ hk => hk.2) (.int .i64 ((rd_T78 l0 x12_1).f1))) (fun _ hk => hk.2) (.bool ((rd_T78 l0 x12_1).f2))) (fun _ hk => trivial)⟩, ⟨bf BK410 NB410_414⟩, ⟨bf BK411 NB411_414⟩, ⟨bs3 HB GE410 GE411 GE414⟩⟩
     ·
      rw [if_neg c8] at H
      exact absurd H (by simp)
    ·
     rw [if_neg c7] at H
     exact absurd H (by simp)
   ·
    rw [if_neg c6] at H
    have c6b0 : decide (x12_1 < (l0.length : Int)) = false := decide_eq_false c6
    clear c6
    replace H := Option.bind_eq_some_iff.mp H
    obtain ⟨t412, A810, H⟩ := H
    replace H : (if t412 = true then (some (x412000_1, true)) else (some (([] : List (S48)), false))) = some (r1, r2) := H
    have A81 := Aside0.mk A810
    clear A810
    by_cases c82 : t412 = true
    ·
     subst c82
     rw [if_pos rfl] at H
     simp only [Option.some.injEq, Prod.mk.injEq] at H
     obtain ⟨rfl, rfl⟩ := H
     have hnb83 := NB411_410.out
     have hnc83 := NB410_411.out
     have hcz84_0 := cz1 BK411
     have hfz84_0 := fz1 BK411
     obtain ⟨Ao85, co85, eo85⟩ := Kd.R_slice HO_412000.out
     subst eo85
     go_wp2_with (first | ((with_reducible refine gate_callee (f := 17) rfl ?_); refine gL (some 58) rfl rfl Try.func17 (by kernel_rfl) rfl #[.agg #[.slice Ao85 x412000_1.length co85]] rfl ?_; (with_reducible refine (impl_GoodMap.calls k1 _ _ x412000_1 true _ ?side1 ?side2 A81.out).mono ?_); (case side1 => exact rc0 HO_412000); (case side2 => exact (Kd.R_reads' HO_412000.out).2.1); rintro e w86 ⟨rfl, hb⟩; refine ⟨_, rfl, ?_⟩; replace HO_412000 := nr HO_412000 hb; replace BK410 := nb BK410 hb; replace BK411 := nb BK411 hb; replace HB := Aside0.mk (below_step (bs2 HB GE410 GE411) hb); (try clear hb); (try clear hb2); (try clear hk); (try clear hi); have hcz87_0 := cz1 BK411; have hfz87_0 := fz1 BK411; have hcz88_0 := cz1 BK410; have hfz88_0 := fz1 BK410))
     refine bodyPost_ret (results_ct rfl _ _ gb410 29 #[.slice Ao85 x412000_1.length co85] (0, 0) _ rfl (by (with_reducible repeat (first | refine blk_drewN ?_ _ | refine blk_drew ?_ | refine blk_alloc ?_ _)); refine blk_put (cs := #[.slice none 0 0]) ?_ 0 _ rfl; (with_reducible repeat (first | refine blk_drewN ?_ _ | refine blk_drew ?_ | refine blk_alloc ?_ _)); exact BK410.out) Try.underlying29 rfl (by kernel_rfl)) rfl ?_
     exact ⟨_, by first | rfl | (simp [errW_none, errW_some] <;> rfl) | (simp [*, errW_none, errW_some] <;> rfl), by (with_reducible repeat (first | apply Kd.R_alloc | apply Kd.R_drewN | apply Kd.R_drew)); exact Kd.R_mono (Kd.R_far (p := ⟨gb410, 0, none⟩) (Kd.R_types HO_412000.out BK410.out (by decide)) (fun _ hk => hk.2) (.slice Ao85 x412000_1.length co85)) (fun _ hk => trivial), bs2 HB GE410 GE411⟩
    ·
     replace c82 := Bool.eq_false_iff.mpr c82
     subst c82
     rw [if_neg (show ¬ (false = true) by decide)] at H
     simp only [Option.some.injEq, Prod.mk.injEq] at H
     obtain ⟨rfl, rfl⟩ := H
     have hnb89 := NB411_410.out
     have hnc89 := NB410_411.out
     have hcz90_0 := cz1 BK411
     have hfz90_0 := fz1 BK411
     obtain ⟨Ao91, co91, eo91⟩ := Kd.R_slice HO_412000.out
     subst eo91
     go_wp2_with (first | ((with_reducible refine gate_callee (f := 17) rfl ?_); refine gL (some 58) rfl rfl Try.func17 (by kernel_rfl) rfl #[.agg #[.slice Ao91 x412000_1.length co91]] rfl ?_; (with_reducible refine (impl_GoodMap.calls k1 _ _ x412000_1 false _ ?side1 ?side2 A81.out).mono ?_); (case side1 => exact rc0 HO_412000); (case side2 => exact (Kd.R_reads' HO_412000.out).2.1); rintro e w92 ⟨rfl, hb⟩; refine ⟨_, rfl, ?_⟩; replace HO_412000 := nr HO_412000 hb; replace BK410 := nb BK410 hb; replace BK411 := nb BK411 hb; replace HB := Aside0.mk (below_step (bs2 HB GE410 GE411) hb); (try clear hb); (try clear hb2); (try clear hk); (try clear hi); have hcz93_0 := cz1 BK410; have hfz93_0 := fz1 BK410))
     refine bodyPost_ret (results_ct rfl _ _ gb410 29 #[.slice none 0 0] (0, 0) _ rfl (by (with_reducible repeat (first | refine blk_drewN ?_ _ | refine blk_drew ?_ | refine blk_alloc ?_ _)); refine blk_put (cs := #[.slice none 0 0]) ?_ 0 _ rfl; (with_reducible repeat (first | refine blk_drewN ?_ _ | refine blk_drew ?_ | refine blk_alloc ?_ _)); exact BK410.out) Try.underlying29 rfl (by kernel_rfl)) rfl ?_
     exact ⟨_, by first | rfl | (simp [errW_none, errW_some] <;> rfl) | (simp [*, errW_none, errW_some] <;> rfl), by first | exact Kd.R_nil _ _ _ _ _ | exact Kd.N_nil _ _ _ _ _ | exact Kd.V_nil _ _ _ _ _ | exact Kd.Q_nil _ _ _ _ _ | exact Kd.S_nil _ _ _ _ _, bs2 HB GE410 GE411⟩

/-! ### laws_heldPieceS: function 65 -/
def laws_heldPieceS.l0 : Nat → List (S48) → Int → Int → Option (Int)
 | 0, _, _, _ => none
 | k + 1, x0, x1, x5 => if x5 < (x0.length : Int) then (if 0 ≤ x5 then (if ((rd_T48 x0 x5).f0) = x1 then (if ((rd_T48 x0 x5).f1) = (wrap64 (x1 + 1)) then (if ((rd_T48 x0 x5).f2) = (wrap64 ((wrap64 (x1 + 1)) + 1)) then (if (((rd_T48 x0 x5).f3) != ((Int.tmod (wrap64 ((wrap64 ((wrap64 (x1 + 1)) + 1)) + 1)) 3) == 0)) = true then (some (-1)) else (laws_heldPieceS.l0 k x0 (wrap64 ((wrap64 ((wrap64 ((wrap64 (x1 + 1)) + 1)) + 1)) + 1)) (wrap64 (x5 + 1)))) else (some (-1))) else (some (-1))) else (some (-1))) else (none)) else (some x1)
def laws_heldPieceS.f (k : Nat) (l0 : List (S48)) (a1 : Int) : Option (Int) := laws_heldPieceS.l0 k l0 a1 0
theorem laws_heldPieceS.mono_l : ∀ k, (∀ y0 y1 y2, LeO (laws_heldPieceS.l0 k y0 y1 y2) (laws_heldPieceS.l0 (k + 1) y0 y1 y2))
 | 0 => fun _ _ _ r h => by simp [laws_heldPieceS.l0] at h
 | k + 1 => by
  have ih0 := laws_heldPieceS.mono_l k
  ·
   intro y0 y1 y2
   unfold laws_heldPieceS.l0
   repeat' first
   | (with_reducible exact ih0 _ _ _)
   | (with_reducible exact LeO.refl _)
   | (with_reducible exact LeO.none _)
   | (with_reducible refine LeO.ite ?_ ?_)
   | (with_reducible refine LeO.bind ?_ (fun _ => ?_))
   | exact ih0 _ _ _
   | exact LeO.none _
   | refine LeO.ite ?_ ?_
   | refine LeO.bind ?_ (fun _ => ?_)
theorem laws_heldPieceS.mono : ∀ a0 a1 k, LeO (laws_heldPieceS.f k a0 a1) (laws_heldPieceS.f (k + 1) a0 a1) := by
 intro a0 a1 k
 have ih0 := laws_heldPieceS.mono_l k
 unfold laws_heldPieceS.f
 repeat' first
   | (with_reducible exact ih0 _ _ _)
   | (with_reducible exact LeO.refl _)
   | (with_reducible exact LeO.none _)
   | (with_reducible refine LeO.ite ?_ ?_)
   | (with_reducible refine LeO.bind ?_ (fun _ => ?_))
   | exact ih0 _ _ _
   | exact LeO.none _
   | refine LeO.ite ?_ ?_
   | refine LeO.bind ?_ (fun _ => ?_)
set_option maxHeartbeats 8000000 in
set_option maxRecDepth 100000 in
theorem laws_heldPieceS.calls (k : Nat) (A0 : Option Addr) (c0 : Nat) (l0 : List (S48)) (a1 : Int) (r : Int) (w : World) (hr0 : Kd.C k48 w A0 l0.length l0) (hc0 : l0.length ≤ c0) (h : laws_heldPieceS.f k l0 a1 = some r) :
  Calls Try.prog 65 #[.slice A0 l0.length c0, .int .i64 a1] w fun e w' => e = .returned (.int .i64 r) ∧ Drawn0 w w' := by
 have HR0 := Aside0.mk hr0
 have HC0 := Aside0.mk hc0
 clear hr0 hc0
 have H : (laws_heldPieceS.l0 k l0 a1 0) = some r := h
 clear h
 have H' := Aside0.mk H
 clear H
 go_enter Try.func65, Try.ntmps65
 go_wp2
 go_loopg [1, 5] k (fun kq v1 v5 w' => ∃ (x1_1 : Int) (x5_1 : Int), v1 = .int .i64 x1_1 ∧ v5 = .int .i64 x5_1 ∧ Aside0 (laws_heldPieceS.l0 kq l0 x1_1 x5_1 = some r) ∧ Aside0 (kq ≤ k) ∧ Drawn0 w w')
 case atStart => exact ⟨(a1), (0), (by first | rfl | (simp; done) | (simp [*]; done)), (by first | rfl | (simp; done) | (simp [*]; done)), H', ⟨Nat.le_refl _⟩, by repeat (first | exact Drawn0.refl _ | apply Drawn0.step)⟩
 case round =>
  clear H'
  try clear p2
  obtain ⟨x1_1, x5_1, rfl, rfl, HA, HK1, ⟨m1, rfl⟩⟩ := hrel
  cases gk with
  | zero => exact absurd HA.out (by simp [laws_heldPieceS.l0])
  | succ k1 =>
   have H := HA.out
   clear HA
   simp only [laws_heldPieceS.l0] at H
   by_cases c3 : x5_1 < (l0.length : Int)
   ·
    rw [if_pos c3] at H
    have c3b0 : decide (x5_1 < (l0.length : Int)) = true := decide_eq_true c3
    clear c3
    by_cases c4 : 0 ≤ x5_1
    ·
     rw [if_pos c4] at H
     have c4b0 : decide (0 ≤ x5_1) = true := decide_eq_true c4
     clear c4
     by_cases c5 : ((rd_T48 l0 x5_1).f0) = x1_1
     ·
      rw [if_pos c5] at H
      have c5b0 : (((rd_T48 l0 x5_1).f0) == x1_1) = true := beq_iff_eq.mpr c5
      have c5b1 : (((rd_T48 l0 x5_1).f0) != x1_1) = false := bne_eq_false_iff_eq.mpr c5
      clear c5
      by_cases c6 : ((rd_T48 l0 x5_1).f1) = (wrap64 (x1_1 + 1))
      ·
       rw [if_pos c6] at H
       have c6b0 : (((rd_T48 l0 x5_1).f1) == (wrap64 (x1_1 + 1))) = true := beq_iff_eq.mpr c6
       have c6b1 : (((rd_T48 l0 x5_1).f1) != (wrap64 (x1_1 + 1))) = false := bne_eq_false_iff_eq.mpr c6
       clear c6
       by_cases c7 : ((rd_T48 l0 x5_1).f2) = (wrap64 ((wrap64 (x1_1 + 1)) + 1))
       ·
        rw [if_pos c7] at H
        have c7b0 : (((rd_T48 l0 x5_1).f2) == (wrap64 ((wrap64 (x1_1 + 1)) + 1))) = true := beq_iff_eq.mpr c7
        have c7b1 : (((rd_T48 l0 x5_1).f2) != (wrap64 ((wrap64 (x1_1 + 1)) + 1))) = false := bne_eq_false_iff_eq.mpr c7
        clear c7
        by_cases c8 : (((rd_T48 l0 x5_1).f3) != ((Int.tmod (wrap64 ((wrap64 ((wrap64 (x1_1 + 1)) + 1)) + 1)) 3) == 0)) = true
        ·
         rw [if_pos c8] at H
         have c8b0 : (((rd_T48 l0 x5_1).f3) != ((Int.tmod (wrap64 ((wrap64 ((wrap64 (x1_1 + 1)) + 1)) + 1)) 3) == 0)) = true := c8
         (try (have c8b1 : decide (((rd_T48 l0 x5_1).f3) = ((Int.tmod (wrap64 ((wrap64 ((wrap64 (x1_1 + 1)) + 1)) + 1)) 3) == 0)) = false := by simpa using c8))
         (try (have c8b2 : (((rd_T48 l0 x5_1).f3) == ((Int.tmod (wrap64 ((wrap64 ((wrap64 (x1_1 + 1)) + 1)) + 1)) 3) == 0)) = false := by simpa using c8))
         (try (have c8b3 : ¬ (((rd_T48 l0 x5_1).f3) = ((Int.tmod (wrap64 ((wrap64 ((wrap64 (x1_1 + 1)) + 1)) + 1)) 3) == 0)) := by simpa using c8))
         clear c8
         obtain rfl := Option.some.inj H
         have p440 : 0 ≤ (x5_1 : Int) := of_decide_eq_true (by first | (with_reducible assumption) | assumption)
         have q440 : x5_1 < (l0.length : Int) := of_decide_eq_true (by first | (with_reducible assumption) | assumption)
         obtain ⟨ad440, e440, hx440_0, hx440_1, hx440_2, hx440_3⟩ := at_T48 HR0.out x5_1 p440 q440
         cases e440
         replace p440 := eq_true p440
         replace q440 := eq_true q440
         have p441 : 0 ≤ (x5_1 : Int) := of_decide_eq_true (by first | (with_reducible assumption) | assumption)
         have q441 : x5_1 < (l0.length : Int) := of_decide_eq_true (by first | (with_reducible assumption) | assumption)
         obtain ⟨ad441, e441, hx441_0, hx441_1, hx441_2, hx441_3⟩ := at_T48 HR0.out x5_1 p441 q441
         obtain rfl : ad440 = ad441 := (by injection e441)
         replace p441 := eq_true p441
         replace q441 := eq_true q441
         have p442 : 0 ≤ (x5_1 : Int) := of_decide_eq_true (by first | (with_reducible assumption) | assumption)
         have q442 : x5_1 < (l0.length : Int) := of_decide_eq_true (by first | (with_reducible assumption) | assumption)
         obtain ⟨ad442, e442, hx442_0, hx442_1, hx442_2, hx442_3⟩ := at_T48 HR0.out x5_1 p442 q442
         obtain rfl : ad440 = ad442 := (by injection e442)
         replace p442 := eq_true p442
         replace q442 := eq_true q442
         have p443 : 0 ≤ (x5_1 : Int) := of_decide_eq_true (by first | (with_reducible assumption) | assumption)
         have q443 : x5_1 < (l0.length : Int) := of_decide_eq_true (by first | (with_reducible assumption) | assumption)
         obtain ⟨ad443, e443, hx443_0, hx443_1, hx443_2, hx443_3⟩ := at_T48 HR0.out x5_1 p443 q443
         obtain rfl : ad440 = ad443 := (by injection e443)
         replace p443 := eq_true p443
         replace q443 := eq_true q443
         go_wp2
         go_ret
         exact ⟨by first | rfl | (simp; done) | (simp [*]; done), by repeat (first | exact Drawn0.refl _ | apply Drawn0.step)⟩
        ·
         rw [if_neg c8] at H
         have c8b0 : (((rd_T48 l0 x5_1).f3) != ((Int.tmod (wrap64 ((wrap64 ((wrap64 (x1_1 + 1)) + 1)) + 1)) 3) == 0)) = false := by simpa using c8
         (try (have c8b1 : decide (((rd_T48 l0 x5_1).f3) = ((Int.tmod (wrap64 ((wrap64 ((wrap64 (x1_1 + 1)) + 1)) + 1)) 3) == 0)) = true := by simpa using c8))
         (try (have c8b2 : (((rd_T48 l0 x5_1).f3) == ((Int.tmod (wrap64 ((wrap64 ((wrap64 (x1_1 + 1)) + 1)) + 1)) 3) == 0)) = true := by simpa using c8))
         clear c8
         have H' := Aside0.mk H
         clear H
         have p440 : 0 ≤ (x5_1 : Int) := of_decide_eq_true (by first | (with_reducible assumption) | assumption)
         have q440 : x5_1 < (l0.length : Int) := of_decide_eq_true (by first | (with_reducible assumption) | assumption)
         obtain ⟨ad440, e440, hx440_0, hx440_1, hx440_2, hx440_3⟩ := at_T48 HR0.out x5_1 p440 q440
         cases e440
         replace p440 := eq_true p440
         replace q440 := eq_true q440
         have p441 : 0 ≤ (x5_1 : Int) := of_decide_eq_true (by first | (with_reducible assumption) | assumption)
         have q441 : x5_1 < (l0.length : Int) := of_decide_eq_true (by first | (with_reducible assumption) | assumption)
         obtain ⟨ad441, e441, hx441_0, hx441_1, hx441_2, hx441_3⟩ := at_T48 HR0.out x5_1 p441 q441
         obtain rfl : ad440 = ad441 := (by injection e441)
         replace p441 := eq_true p441
         replace q441 := eq_true q441
         have p442 : 0 ≤ (x5_1 : Int) := of_decide_eq_true (by first | (with_reducible assumption) | assumption)
         have q442 : x5_1 < (l0.length : Int) := of_decide_eq_true (by first | (with_reducible assumption) | assumption)
         obtain ⟨ad442, e442, hx442_0, hx442_1, hx442_2, hx442_3⟩ := at_T48 HR0.out x5_1 p442 q442
         obtain rfl : ad440 = ad442 := (by injection e442)
         replace p442 := eq_true p442
         replace q442 := eq_true q442
         have p443 : 0 ≤ (x5_1 : Int) := of_decide_eq_true (by first | (with_reducible assumption) | assumption)
         have q443 : x5_1 < (l0.length : Int) := of_decide_eq_true (by first | (with_reducible assumption) | assumption)
         obtain ⟨ad443, e443, hx443_0, hx443_1, hx443_2, hx443_3⟩ := at_T48 HR0.out x5_1 p443 q443
         obtain rfl : ad440 = ad443 := (by injection e443)
         replace p443 := eq_true p443
         replace q443 := eq_true q443
         go_wp2
         go_roundg k1
         case measure => have := HK1.out; omega
         case rel => exact ⟨(wrap64 ((wrap64 ((wrap64 ((wrap64 (x1_1 + 1)) + 1)) + 1)) + 1)), (wrap64 (x5_1 + 1)), (by first | rfl | (simp; done) | (simp [*]; done)), (by first | rfl | (simp; done) | (simp [*]; done)), H', ⟨by have := HK1.out; omega⟩, by repeat (first | exact Drawn0.refl _ | apply Drawn0.step)⟩
       ·
        rw [if_neg c7] at H
        have c7b0 : (((rd_T48 l0 x5_1).f2) == (wrap64 ((wrap64 (x1_1 + 1)) + 1))) = false := beq_eq_false_iff_ne.mpr c7
        have c7b1 : (((rd_T48 l0 x5_1).f2) != (wrap64 ((wrap64 (x1_1 + 1)) + 1))) = true := bne_iff_ne.mpr c7
        obtain rfl := Option.some.inj H
        have p440 : 0 ≤ (x5_1 : Int) := of_decide_eq_true (by first | (with_reducible assumption) | assumption)
        have q440 : x5_1 < (l0.length : Int) := of_decide_eq_true (by first | (with_reducible assumption) | assumption)
        obtain ⟨ad440, e440, hx440_0, hx440_1, hx440_2, hx440_3⟩ := at_T48 HR0.out x5_1 p440 q440
        cases e440
        replace p440 := eq_true p440
        replace q440 := eq_true q440
        have p441 : 0 ≤ (x5_1 : Int) := of_decide_eq_true (by first | (with_reducible assumption) | assumption)
        have q441 : x5_1 < (l0.length : Int) := of_decide_eq_true (by first | (with_reducible assumption) | assumption)
        obtain ⟨ad441, e441, hx441_0, hx441_1, hx441_2, hx441_3⟩ := at_T48 HR0.out x5_1 p441 q441
        obtain rfl : ad440 = ad441 := (by injection e441)
        replace p441 := eq_true p441
        replace q441 := eq_true q441
        have p442 : 0 ≤ (x5_1 : Int) := of_decide_eq_true (by first | (with_reducible assumption) | assumption)
        have q442 : x5_1 < (l0.length : Int) := of_decide_eq_true (by first | (with_reducible assumption) | assumption)
        obtain ⟨ad442, e442, hx442_0, hx442_1, hx442_2, hx442_3⟩ := at_T48 HR0.out x5_1 p442 q442
        obtain rfl : ad440 = ad442 := (by injection e442)
        replace p442 := eq_true p442
        replace q442 := eq_true q442
        go_wp2
        go_ret
        exact ⟨by first | rfl | (simp; done) | (simp [*]; done), by repeat (first | exact Drawn0.refl _ | apply Drawn0.step)⟩
      ·
       rw [if_neg c6] at H
       have c6b0 : (((rd_T48 l0 x5_1).f1) == (wrap64 (x1_1 + 1))) = false := beq_eq_false_iff_ne.mpr c6
       have c6b1 : (((rd_T48 l0 x5_1).f1) != (wrap64 (x1_1 + 1))) = true := bne_iff_ne.mpr c6
       obtain rfl := Option.some.inj H
       have p440 : 0 ≤ (x5_1 : Int) := of_decide_eq_true (by first | (with_reducible assumption) | assumption)
       have q440 : x5_1 < (l0.length : Int) := of_decide_eq_true (by first | (with_reducible assumption) | assumption)
       obtain ⟨ad440, e440, hx440_0, hx440_1, hx440_2, hx440_3⟩ := at_T48 HR0.out x5_1 p440 q440
       cases e440
       replace p440 := eq_true p440
       replace q440 := eq_true q440
       have p441 : 0 ≤ (x5_1 : Int) := of_decide_eq_true (by first | (with_reducible assumption) | assumption)
       have q441 : x5_1 < (l0.length : Int) := of_decide_eq_true (by first | (with_reducible assumption) | assumption)
       obtain ⟨ad441, e441, hx441_0, hx441_1, hx441_2, hx441_3⟩ := at_T48 HR0.out x5_1 p441 q441
       obtain rfl : ad440 = ad441 := (by injection e441)
       replace p441 := eq_true p441
       replace q441 := eq_true q441
       go_wp2
       go_ret
       exact ⟨by first | rfl | (simp; done) | (simp [*]; done), by repeat (first | exact Drawn0.refl _ | apply Drawn0.step)⟩
     ·
      rw [if_neg c5] at H
      have c5b0 : (((rd_T48 l0 x5_1).f0) == x1_1) = false := beq_eq_false_iff_ne.mpr c5
      have c5b1 : (((rd_T48 l0 x5_1).f0) != x1_1) = true := bne_iff_ne.mpr c5
      obtain rfl := Option.some.inj H
      have p440 : 0 ≤ (x5_1 : Int) := of_decide_eq_true (by first | (with_reducible assumption) | assumption)
      have q440 : x5_1 < (l0.length : Int) := of_decide_eq_true (by first | (with_reducible assumption) | assumption)
      obtain ⟨ad440, e440, hx440_0, hx440_1, hx440_2, hx440_3⟩ := at_T48 HR0.out x5_1 p440 q440
      cases e440
      replace p440 := eq_true p440
      replace q440 := eq_true q440
      go_wp2
      go_ret
      exact ⟨by first | rfl | (simp; done) | (simp [*]; done), by repeat (first | exact Drawn0.refl _ | apply Drawn0.step)⟩
    ·
     rw [if_neg c4] at H
     exact absurd H (by simp)
   ·
    rw [if_neg c3] at H
    have c3b0 : decide (x5_1 < (l0.length : Int)) = false := decide_eq_false c3
    clear c3
    obtain rfl := Option.some.inj H
    go_wp2
    go_ret
    exact ⟨by first | rfl | (simp; done) | (simp [*]; done), by repeat (first | exact Drawn0.refl _ | apply Drawn0.step)⟩

/-! ### laws_heldFileMap: function 32 -/
def laws_heldFileMap.f (k : Nat) (l0_0 : List (S48)) (a1 : Int) : Option (Int) := (laws_heldPieceS.f k l0_0 a1).bind fun t445 => (if t445 < 0 then (some (-1)) else (some t445))
theorem laws_heldFileMap.mono : ∀ a0 a1 k, LeO (laws_heldFileMap.f k a0 a1) (laws_heldFileMap.f (k + 1) a0 a1) := by
 intro a0 a1 k
 unfold laws_heldFileMap.f
 repeat' first
   | (with_reducible exact laws_heldPieceS.mono _ _ _)
   | (with_reducible exact LeO.refl _)
   | (with_reducible exact LeO.none _)
   | (with_reducible refine LeO.ite ?_ ?_)
   | (with_reducible refine LeO.bind ?_ (fun _ => ?_))
   | exact laws_heldPieceS.mono _ _ _
   | exact LeO.none _
   | refine LeO.ite ?_ ?_
   | refine LeO.bind ?_ (fun _ => ?_)
set_option maxHeartbeats 8000000 in
set_option maxRecDepth 100000 in
theorem laws_heldFileMap.calls (k : Nat) (A0_0 : Option Addr) (c0_0 : Nat) (l0_0 : List (S48)) (a1 : Int) (r : Int) (w : World) (hr0_0 : Kd.C k48 w A0_0 l0_0.length l0_0) (hc0_0 : l0_0.length ≤ c0_0) (h : laws_heldFileMap.f k l0_0 a1 = some r) :
  Calls Try.prog 32 #[.agg #[.slice A0_0 l0_0.length c0_0], .int .i64 a1] w fun e w' => e = .returned (.int .i64 r) ∧ Below w.heap.size w w' := by
 have hu29 := Try.underlying29
 have HR0_0 := Aside0.mk hr0_0
 have HC0_0 := Aside0.mk hc0_0
 clear hr0_0 hc0_0
 have HB := Aside0.mk (Below.refl w.heap.size w)
 have H : ((laws_heldPieceS.f k l0_0 a1).bind fun t445 => (if t445 < 0 then (some (-1)) else (some t445))) = some r := h
 clear h
 replace H := Option.bind_eq_some_iff.mp H
 obtain ⟨t445, A30, H⟩ := H
 replace H : (if t445 < 0 then (some (-1)) else (some t445)) = some r := H
 have A3 := Aside0.mk A30
 clear A30
 by_cases c4 : t445 < 0
 ·
  rw [if_pos c4] at H
  have c4b0 : decide (t445 < 0) = true := decide_eq_true c4
  clear c4
  obtain rfl := Option.some.inj H
  go_enter Try.func32, Try.ntmps32
  go_wp2_with (first | ((with_reducible refine gate_dst (N := 2) rfl ?_); refine box_event ?hg (N := 2) ?hd (cs := #[.slice A0_0 l0_0.length c0_0]) (t := 29) ?hr ?_; (case hd => rfl); (case hg => rfl); (case hr => first | (go_simp; done) | (go_simp; rfl)); intro gb444 hg w5 hbox hb; have BK444 := Aside0.mk (hbox); have GW444 := Aside0.mk ((by rw [hg]; exact (below_size (bs HB)) : w.heap.size ≤ gb444)); have GE444 := Aside0.mk ((by rw [hg]; exact (below_size (bs HB)) : w.heap.size ≤ gb444)); replace HB := Aside0.mk (below_step (bs HB) hb); clear hb hbox hg; have hcz6_0 := cz1 BK444; have hfz6_0 := fz1 BK444) | ((with_reducible refine gate_callee (f := 65) rfl ?_); refine gL (some 8) rfl rfl Try.func65 (by kernel_rfl) rfl #[.slice A0_0 l0_0.length c0_0, .int .i64 a1] rfl ?_; (with_reducible refine (laws_heldPieceS.calls k _ _ l0_0 a1 t445 _ ?side1 ?side2 A3.out).mono ?_); (case side1 => exact cb HR0_0 HB); (case side2 => exact HC0_0.out); rintro e w' ⟨rfl, ⟨nd, rfl⟩⟩; refine ⟨_, rfl, ?_⟩))
  go_ret
  exact ⟨by first | rfl | (simp [errW_none, errW_some] <;> rfl) | (simp [*, errW_none, errW_some] <;> rfl), bs1 HB GE444⟩
 ·
  rw [if_neg c4] at H
  have c4b0 : decide (t445 < 0) = false := decide_eq_false c4
  clear c4
  obtain rfl := Option.some.inj H
  go_enter Try.func32, Try.ntmps32
  go_wp2_with (first | ((with_reducible refine gate_dst (N := 2) rfl ?_); refine box_event ?hg (N := 2) ?hd (cs := #[.slice A0_0 l0_0.length c0_0]) (t := 29) ?hr ?_; (case hd => rfl); (case hg => rfl); (case hr => first | (go_simp; done) | (go_simp; rfl)); intro gb444 hg w7 hbox hb; have BK444 := Aside0.mk (hbox); have GW444 := Aside0.mk ((by rw [hg]; exact (below_size (bs HB)) : w.heap.size ≤ gb444)); have GE444 := Aside0.mk ((by rw [hg]; exact (below_size (bs HB)) : w.heap.size ≤ gb444)); replace HB := Aside0.mk (below_step (bs HB) hb); clear hb hbox hg; have hcz8_0 := cz1 BK444; have hfz8_0 := fz1 BK444) | ((with_reducible refine gate_callee (f := 65) rfl ?_); refine gL (some 8) rfl rfl Try.func65 (by kernel_rfl) rfl #[.slice A0_0 l0_0.length c0_0, .int .i64 a1] rfl ?_; (with_reducible refine (laws_heldPieceS.calls k _ _ l0_0 a1 t445 _ ?side1 ?side2 A3.out).mono ?_); (case side1 => exact cb HR0_0 HB); (case side2 => exact HC0_0.out); rintro e w' ⟨rfl, ⟨nd, rfl⟩⟩; refine ⟨_, rfl, ?_⟩))
  go_ret
  exact ⟨by first | rfl | (simp [errW_none, errW_some] <;> rfl) | (simp [*, errW_none, errW_some] <;> rfl), bs1 HB GE444⟩

end Go.Proofs.Ytojdlcbmbpgplaa.G
