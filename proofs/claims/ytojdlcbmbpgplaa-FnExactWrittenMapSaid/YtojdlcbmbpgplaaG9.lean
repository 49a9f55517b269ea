-- Printed by a program of this session (drive.py, by way of the kit's print). Not trusted: Lean checks it.
import Derived.Test.YtojdlcbmbpgplaaG0
import Derived.Test.YtojdlcbmbpgplaaG3
namespace Go.Proofs.Ytojdlcbmbpgplaa.G
open Go.RowKit Go.Proofs.YtojdlcbmbpgplaaW.PrintWords Go.Proofs.YtojdlcbmbpgplaaW.PrintLast Go.Proofs.YtojdlcbmbpgplaaW.PrintMore
attribute [local go_sem] max2_int min2_int max_two min_two max_three min_three max_four min_four   -- for this text's walks alone
set_option linter.unusedVariables false
set_option linter.unusedSimpArgs false

/-! ### spec_l9Joined: function 62 -/
def spec_l9Joined.l0 : Nat → List (S48) → List (S48) → Int → Int → Option ((List (S48)))
 | 0, _, _, _, _ => none
 | k + 1, x3, x7, x8, x9 => if x9 < x8 then (if 0 ≤ x9 then (if x9 < (x7.length : Int) then (if (wrap64 ((x3.length : Int) - 1)) ≥ 0 then (if 0 ≤ (wrap64 ((x3.length : Int) - 1)) then (if (wrap64 ((x3.length : Int) - 1)) < (x3.length : Int) then ((spec_l9Goes.f ((rd_T48 x3 (wrap64 ((x3.length : Int) - 1))).f0) ((rd_T48 x3 (wrap64 ((x3.length : Int) - 1))).f1) ((rd_T48 x3 (wrap64 ((x3.length : Int) - 1))).f2) ((rd_T48 x3 (wrap64 ((x3.length : Int) - 1))).f3) ((rd_T48 x7 x9).f0) ((rd_T48 x7 x9).f1) ((rd_T48 x7 x9).f2) ((rd_T48 x7 x9).f3)).bind fun t350 => (if t350 = true then (spec_l9Joined.l0 k (x3.set ((wrap64 ((x3.length : Int) - 1)) : Int).toNat (⟨(rd_T48 x3 (wrap64 ((x3.length : Int) - 1))).f0, wrap64 (((rd_T48 x3 (wrap64 ((x3.length : Int) - 1))).f1) + ((rd_T48 x7 x9).f1)), (rd_T48 x3 (wrap64 ((x3.length : Int) - 1))).f2, (rd_T48 x3 (wrap64 ((x3.length : Int) - 1))).f3⟩ : S48)) x7 x8 (wrap64 (x9 + 1))) else (if x3.length < 4398046511104 then (spec_l9Joined.l0 k (x3 ++ [(⟨(rd_T48 x7 x9).f0, (rd_T48 x7 x9).f1, (rd_T48 x7 x9).f2, (rd_T48 x7 x9).f3⟩ : S48)]) x7 x8 (wrap64 (x9 + 1))) else (none)))) else (none)) else (none)) else (if x3.length < 4398046511104 then (spec_l9Joined.l0 k (x3 ++ [(⟨(rd_T48 x7 x9).f0, (rd_T48 x7 x9).f1, (rd_T48 x7 x9).f2, (rd_T48 x7 x9).f3⟩ : S48)]) x7 x8 (wrap64 (x9 + 1))) else (none))) else (none)) else (none)) else (some x3)
def spec_l9Joined.f (k : Nat) (l0 : List (S48)) : Option ((List (S48))) := spec_l9Joined.l0 k ([] : List (S48)) l0 (l0.length : Int) 0
theorem spec_l9Joined.mono_l : ∀ k, (∀ y0 y1 y2 y3, LeO (spec_l9Joined.l0 k y0 y1 y2 y3) (spec_l9Joined.l0 (k + 1) y0 y1 y2 y3))
 | 0 => fun _ _ _ _ r h => by simp [spec_l9Joined.l0] at h
 | k + 1 => by
  have ih0 := spec_l9Joined.mono_l k
  ·
   intro y0 y1 y2 y3
   unfold spec_l9Joined.l0
   repeat' first
   | (with_reducible exact ih0 _ _ _ _)
   | (with_reducible exact LeO.refl _)
   | (with_reducible exact LeO.none _)
   | (with_reducible refine LeO.ite ?_ ?_)
   | (with_reducible refine LeO.bind ?_ (fun _ => ?_))
   | exact ih0 _ _ _ _
   | exact LeO.none _
   | refine LeO.ite ?_ ?_
   | refine LeO.bind ?_ (fun _ => ?_)
theorem spec_l9Joined.mono : ∀ a0 k, LeO (spec_l9Joined.f k a0) (spec_l9Joined.f (k + 1) a0) := by
 intro a0 k
 have ih0 := spec_l9Joined.mono_l k
 unfold spec_l9Joined.f
 repeat' first
   | (with_reducible exact ih0 _ _ _ _)
   | (with_reducible exact LeO.refl _)
   | (with_reducible exact LeO.none _)
   | (with_reducible refine LeO.ite ?_ ?_)
   | (with_reducible refine LeO.bind ?_ (fun _ => ?_))
   | exact ih0 _ _ _ _
   | exact LeO.none _
   | refine LeO.ite ?_ ?_
   | refine LeO.bind ?_ (fun _ => ?_)
def spec_l9Joined.T6 : Bool × List (List Nat × List Nat) := (true, [([], []), ([0], [0]), ([1], [1]), ([2], [2]), ([2], [2]), ([3, 4, 2], [2, 3, 4]), ([5, 2], [2, 5]), ([2], [2]), ([6, 7, 2, 2], [2, 6, 7]), ([2, 8], [2, 8])])
def spec_l9Joined.B6 : List Nat := [0, 1, 3, 7, 7, 31, 63, 7, 255, 511]
theorem spec_l9Joined.tab6 : rtab .any (opsOf Try.f62 6) = spec_l9Joined.T6 := by kernel_rfl
theorem spec_l9Joined.bits6 : waitsOk spec_l9Joined.T6.2 spec_l9Joined.B6 = true := by kernel_rfl
def spec_l9Joined.T7 : Bool × List (List Nat × List Nat) := (true, [([], []), ([], []), ([0, 1], [0, 1]), ([2], [2]), ([3], [3]), ([], []), ([5], [5]), ([4, 6], [4, 6]), ([0, 1, 0, 1, 2, 3, 4, 5, 6, 7], [0, 1]), ([8, 0, 1, 2, 3, 4, 5, 6, 7], [8]), ([9, 7, 0, 1, 2, 3, 4, 5, 6, 7], [7, 9])])
def spec_l9Joined.B7 : List Nat := [0, 0, 3, 7, 15, 0, 32, 127, 255, 511, 1023]
theorem spec_l9Joined.tab7 : rtab .any (opsOf Try.f62 7) = spec_l9Joined.T7 := by kernel_rfl
theorem spec_l9Joined.bits7 : waitsOk spec_l9Joined.T7.2 spec_l9Joined.B7 = true := by kernel_rfl
set_option maxHeartbeats 8000000 in
set_option maxRecDepth 100000 in
theorem spec_l9Joined.calls (k : Nat) (A0 : Option Addr) (c0 : Nat) (l0 : List (S48)) (r : List (S48)) (w : World) (hr0 : Kd.C k48 w A0 l0.length l0) (hc0 : l0.length ≤ c0) (h : spec_l9Joined.f k l0 = some r) :
  Calls Try.prog 62 #[.slice A0 l0.length c0] w fun e w' => ∃ v0_ : Value, e = .returned (.agg #[v0_]) ∧ Kd.R k48 48 w' w.heap.size (fun _ => True) v0_ r ∧ Below w.heap.size w w' := by
 have hu29 := Try.underlying29
 have hu48 := Try.underlying48
 have HR0 := Aside0.mk hr0
 have HC0 := Aside0.mk hc0
 clear hr0 hc0
 have HB := Aside0.mk (Below.refl w.heap.size w)
 have H : (spec_l9Joined.l0 k ([] : List (S48)) l0 (l0.length : Int) 0) = some r := h
 clear h
 have H' := Aside0.mk H
 clear H
 go_enter Try.func62, Try.ntmps62
 go_wp2_with (first | ((with_reducible refine gate_dst (N := 2) rfl ?_); refine box_event ?hg (N := 2) ?hd (cs := #[.slice none 0 0]) (t := 29) ?hr ?_; (case hd => rfl); (case hg => rfl); (case hr => first | (go_simp; done) | (go_simp; rfl)); intro gb346 hg w2 hbox hb; have BK346 := Aside0.mk (hbox); have GW346 := Aside0.mk ((by rw [hg]; exact (below_size (bs HB)) : w.heap.size ≤ gb346)); have GE346 := Aside0.mk ((by rw [hg]; exact (below_size (bs HB)) : w.heap.size ≤ gb346)); replace HB := Aside0.mk (below_step (bs HB) hb); clear hb hbox hg))
 go_loopg [3, 9] k (fun kq v3 v9 w' => ∃ (x3_1 : List (S48)) (x9_1 : Int), v9 = .int .i64 x9_1 ∧ Aside0 (spec_l9Joined.l0 kq x3_1 l0 (l0.length : Int) x9_1 = some r) ∧ Aside0 (kq ≤ k) ∧ Aside0 (Kd.R k48 48 w' w.heap.size (fun _ => True) v3 x3_1) ∧ Aside0 (w'.heap[gb346]? = some (.cells #[(.slice none 0 0)] 29 (0, 0))) ∧ Aside0 (Below w.heap.size w w'))
 case atStart => exact ⟨(([] : List (S48))), (0), (by first | rfl | (simp; done) | (simp [*]; done)), H', ⟨Nat.le_refl _⟩, ⟨by first | exact Kd.R_nil _ _ _ _ _ | exact Kd.N_nil _ _ _ _ _ | exact Kd.V_nil _ _ _ _ _ | exact Kd.Q_nil _ _ _ _ _ | exact Kd.S_nil _ _ _ _ _⟩, ⟨bk BK346⟩, ⟨bs1 HB GE346⟩⟩
 case round =>
  clear H'
  try clear p2
  obtain ⟨x3_1, x9_1, rfl, HA, HK1, HO_3, BK346, HB⟩ := hrel
  cases gk with
  | zero => exact absurd HA.out (by simp [spec_l9Joined.l0])
  | succ k1 =>
   have H := HA.out
   clear HA
   simp only [spec_l9Joined.l0] at H
   by_cases c3 : x9_1 < (l0.length : Int)
   ·
    rw [if_pos c3] at H
    have c3b0 : decide (x9_1 < (l0.length : Int)) = true := decide_eq_true c3
    clear c3
    by_cases c4 : 0 ≤ x9_1
    ·
     rw [if_pos c4] at H
     have c4b0 : decide (0 ≤ x9_1) = true := decide_eq_true c4
     clear c4
     by_cases c5 : x9_1 < (l0.length : Int)
     ·
      rw [if_pos c5] at H
      have c5b0 : decide (x9_1 < (l0.length : Int)) = true := decide_eq_true c5
      clear c5
      by_cases c6 : (wrap64 ((x3_1.length : Int) - 1)) ≥ 0
      ·
       rw [if_pos c6] at H
       have c6b0 : decide (0 ≤ (wrap64 ((x3_1.length : Int) - 1))) = true := decide_eq_true c6
       clear c6
       obtain ⟨ji7, hji7⟩ : ∃ j_ : Int, (wrap64 ((x3_1.length : Int) - 1)) = j_ := ⟨_, rfl⟩
       replace H : (if 0 ≤ (ji7) then (if (ji7) < (x3_1.length : Int) then ((spec_l9Goes.f ((rd_T48 x3_1 (ji7)).f0) ((rd_T48 x3_1 (ji7)).f1) ((rd_T48 x3_1 (ji7)).f2) ((rd_T48 x3_1 (ji7)).f3) ((rd_T48 l0 x9_1).f0) ((rd_T48 l0 x9_1).f1) ((rd_T48 l0 x9_1).f2) ((rd_T48 l0 x9_1).f3)).bind fun t350 => (if t350 = true then (spec_l9Joined.l0 k1 (x3_1.set ((ji7) : Int).toNat (⟨(rd_T48 x3_1 (ji7)).f0, wrap64 (((rd_T48 x3_1 (ji7)).f1) + ((rd_T48 l0 x9_1).f1)), (rd_T48 x3_1 (ji7)).f2, (rd_T48 x3_1 (ji7)).f3⟩ : S48)) l0 (l0.length : Int) (wrap64 (x9_1 + 1))) else (if x3_1.length < 4398046511104 then (spec_l9Joined.l0 k1 (x3_1 ++ [(⟨(rd_T48 l0 x9_1).f0, (rd_T48 l0 x9_1).f1, (rd_T48 l0 x9_1).f2, (rd_T48 l0 x9_1).f3⟩ : S48)]) l0 (l0.length : Int) (wrap64 (x9_1 + 1))) else (none)))) else (none)) else (none)) = some r := by first | (rw [hji7] at H; exact H) | (simp only [hji7] at H ⊢; exact H)
       (try rw [hji7] at c6b0)
       have hji7w : (IntKind.i64.wrap ((x3_1.length : Int) - 1)) = ji7 := (i64_w _).trans hji7
       by_cases c8 : 0 ≤ (ji7)
       ·
        rw [if_pos c8] at H
        have c8b0 : decide (0 ≤ (ji7)) = true := decide_eq_true c8
        clear c8
        by_cases c9 : (ji7) < (x3_1.length : Int)
        ·
         rw [if_pos c9] at H
         have c9b0 : decide ((ji7) < (x3_1.length : Int)) = true := decide_eq_true c9
         clear c9
         replace H := Option.bind_eq_some_iff.mp H
         obtain ⟨t350, A100, H⟩ := H
         replace H : (if t350 = true then (spec_l9Joined.l0 k1 (x3_1.set ((ji7) : Int).toNat (⟨(rd_T48 x3_1 (ji7)).f0, wrap64 (((rd_T48 x3_1 (ji7)).f1) + ((rd_T48 l0 x9_1).f1)), (rd_T48 x3_1 (ji7)).f2, (rd_T48 x3_1 (ji7)).f3⟩ : S48)) l0 (l0.length : Int) (wrap64 (x9_1 + 1))) else (if x3_1.length < 4398046511104 then (spec_l9Joined.l0 k1 (x3_1 ++ [(⟨(rd_T48 l0 x9_1).f0, (rd_T48 l0 x9_1).f1, (rd_T48 l0 x9_1).f2, (rd_T48 l0 x9_1).f3⟩ : S48)]) l0 (l0.length : Int) (wrap64 (x9_1 + 1))) else (none))) = some r := H
         have A10 := Aside0.mk A100
         clear A100
         by_cases c11 : t350 = true
         ·
          subst c11
          rw [if_pos rfl] at H
          obtain ⟨y352, hy352⟩ : ∃ y_ : List (S48), y_ = (x3_1.set ((ji7) : Int).toNat (⟨(rd_T48 x3_1 (ji7)).f0, wrap64 (((rd_T48 x3_1 (ji7)).f1) + ((rd_T48 l0 x9_1).f1)), (rd_T48 x3_1 (ji7)).f2, (rd_T48 x3_1 (ji7)).f3⟩ : S48)) := ⟨_, rfl⟩
          replace H : (spec_l9Joined.l0 k1 y352 l0 (l0.length : Int) (wrap64 (x9_1 + 1))) = some r := by first | (rw [hy352]; with_reducible exact H) | (have H2_ := (Option.bind_some _ _).symm.trans H; rw [hy352]; with_reducible exact H2_) | (have H2_ := (Option.bind_some _ _).symm.trans H; with_reducible exact H2_) | with_reducible exact H | (rw [hy352]; exact H) | exact H
          have Ny352 := Aside0.mk hy352
          clear hy352
          have H' := Aside0.mk H
          clear H
          have p347 : 0 ≤ (x9_1 : Int) := of_decide_eq_true (by first | (with_reducible assumption) | assumption)
          have q347 : x9_1 < (l0.length : Int) := of_decide_eq_true (by first | (with_reducible assumption) | assumption)
          obtain ⟨ad347, e347, hx347_0, hx347_1, hx347_2, hx347_3⟩ := at_T48 HR0.out x9_1 p347 q347
          cases e347
          replace hx347_0 := (HB.out.cell (World.block_lt_of_cell? w _ hx347_0)).trans hx347_0
          replace hx347_1 := (HB.out.cell (World.block_lt_of_cell? w _ hx347_1)).trans hx347_1
          replace hx347_2 := (HB.out.cell (World.block_lt_of_cell? w _ hx347_2)).trans hx347_2
          replace hx347_3 := (HB.out.cell (World.block_lt_of_cell? w _ hx347_3)).trans hx347_3
          replace p347 := eq_true p347
          replace q347 := eq_true q347
          try go_wp2_with (first | ((with_reducible refine gate_dst (N := 5) rfl ?_); refine box_event ?hg (N := 5) ?hd (cs := #[.int .i64 0, .int .i64 0, .int .i64 0, .bool false]) (t := 48) ?hr ?_; (case hd => rfl); (case hg => rfl); (case hr => first | (go_simp; done) | (go_simp; rfl)); intro gb348 hg w13 hbox hb; replace HO_3 := Aside0.mk (Kd.R_below (Kd.R_elderB (rr HO_3.out) gb348 (Nat.le_of_eq hg.symm)) hb); have BK348 := Aside0.mk (hbox); have GW348 := Aside0.mk ((by rw [hg]; exact (below_size (bs1 HB GE346)) : w.heap.size ≤ gb348)); have GE348 := Aside0.mk ((by rw [hg]; exact (below_size (bs1 HB GE346)) : w.heap.size ≤ gb348)); replace HB := Aside0.mk (below_step (bs1 HB GE346) hb); have NB346_348 := Aside0.mk ((bn BK346 hg : gb346 ≠ gb348)); have NB348_346 := Aside0.mk ((bm BK346 hg : gb348 ≠ gb346)); replace BK346 := nb BK346 hb; clear hb hbox hg; have hnb14 := NB348_346.out; have hnc14 := NB346_348.out; obtain ⟨hcz15_0, hcz15_1, hcz15_2, hcz15_3⟩ := cz4 BK348; obtain ⟨hfz15_0, hfz15_1, hfz15_2, hfz15_3⟩ := fz4 BK348; obtain ⟨Ao16, co16, eo16⟩ := Kd.R_slice HO_3.out; subst eo16))
          have n0_ : Aside0 (Kd.R k48 48 ((((w13.setCell ⟨gb348, 0, none⟩ (.int .i64 ((rd_T48 l0 x9_1).f0))).setCell ⟨gb348, 1, none⟩ (.int .i64 ((rd_T48 l0 x9_1).f1))).setCell ⟨gb348, 2, none⟩ (.int .i64 ((rd_T48 l0 x9_1).f2))).setCell ⟨gb348, 3, none⟩ (.bool ((rd_T48 l0 x9_1).f3))) w.heap.size (fun k_ => k_ ≠ gb348) (.slice Ao16 x3_1.length co16) x3_1) := ⟨by (with_reducible repeat (first | apply Kd.R_alloc | apply Kd.R_drewN | apply Kd.R_drew)); exact Kd.R_mono (Kd.R_far (p := ⟨gb348, 3, none⟩) (Kd.R_far (p := ⟨gb348, 2, none⟩) (Kd.R_far (p := ⟨gb348, 1, none⟩) (Kd.R_far (p := ⟨gb348, 0, none⟩) (Kd.R_mono HO_3.out (fun k_ hk => (⟨hk, hk.2⟩ : _ ∧ k_ ≠ gb348))) (fun _ hk => hk.2) (.int .i64 ((rd_T48 l0 x9_1).f0))) (fun _ hk => hk.2) (.int .i64 ((rd_T48 l0 x9_1).f1))) (fun _ hk => hk.2) (.int .i64 ((rd_T48 l0 x9_1).f2))) (fun _ hk => hk.2) (.bool ((rd_T48 l0 x9_1).f3))) (fun _ hk => hk.1.2)⟩
          have n1_ : Aside0 (((((w13.setCell ⟨gb348, 0, none⟩ (.int .i64 ((rd_T48 l0 x9_1).f0))).setCell ⟨gb348, 1, none⟩ (.int .i64 ((rd_T48 l0 x9_1).f1))).setCell ⟨gb348, 2, none⟩ (.int .i64 ((rd_T48 l0 x9_1).f2))).setCell ⟨gb348, 3, none⟩ (.bool ((rd_T48 l0 x9_1).f3))).heap[gb346]? = some (.cells #[.slice none 0 0] 29 (0, 0))) := ⟨bf BK346 NB346_348⟩
          have n2_ : Aside0 (((((w13.setCell ⟨gb348, 0, none⟩ (.int .i64 ((rd_T48 l0 x9_1).f0))).setCell ⟨gb348, 1, none⟩ (.int .i64 ((rd_T48 l0 x9_1).f1))).setCell ⟨gb348, 2, none⟩ (.int .i64 ((rd_T48 l0 x9_1).f2))).setCell ⟨gb348, 3, none⟩ (.bool ((rd_T48 l0 x9_1).f3))).heap[gb348]? = some (.cells #[.int .i64 ((rd_T48 l0 x9_1).f0), .int .i64 ((rd_T48 l0 x9_1).f1), .int .i64 ((rd_T48 l0 x9_1).f2), .bool ((rd_T48 l0 x9_1).f3)] 48 (0, 0))) := ⟨by (with_reducible repeat (first | refine blk_drewN ?_ _ | refine blk_drew ?_ | refine blk_alloc ?_ _)); refine blk_put (cs := #[.int .i64 ((rd_T48 l0 x9_1).f0), .int .i64 ((rd_T48 l0 x9_1).f1), .int .i64 ((rd_T48 l0 x9_1).f2), .bool false]) ?_ 3 _ rfl; (with_reducible repeat (first | refine blk_drewN ?_ _ | refine blk_drew ?_ | refine blk_alloc ?_ _)); refine blk_put (cs := #[.int .i64 ((rd_T48 l0 x9_1).f0), .int .i64 ((rd_T48 l0 x9_1).f1), .int .i64 0, .bool false]) ?_ 2 _ rfl; (with_reducible repeat (first | refine blk_drewN ?_ _ | refine blk_drew ?_ | refine blk_alloc ?_ _)); refine blk_put (cs := #[.int .i64 ((rd_T48 l0 x9_1).f0), .int .i64 0, .int .i64 0, .bool false]) ?_ 1 _ rfl; (with_reducible repeat (first | refine blk_drewN ?_ _ | refine blk_drew ?_ | refine blk_alloc ?_ _)); refine blk_put (cs := #[.int .i64 0, .int .i64 0, .int .i64 0, .bool false]) ?_ 0 _ rfl; (with_reducible repeat (first | refine blk_drewN ?_ _ | refine blk_drew ?_ | refine blk_alloc ?_ _)); exact BK348.out⟩
          have n3_ : Aside0 (Below w.heap.size w ((((w13.setCell ⟨gb348, 0, none⟩ (.int .i64 ((rd_T48 l0 x9_1).f0))).setCell ⟨gb348, 1, none⟩ (.int .i64 ((rd_T48 l0 x9_1).f1))).setCell ⟨gb348, 2, none⟩ (.int .i64 ((rd_T48 l0 x9_1).f2))).setCell ⟨gb348, 3, none⟩ (.bool ((rd_T48 l0 x9_1).f3)))) := ⟨bs2 HB GE346 GE348⟩
          (try clear HO_3)
          (try clear BK346)
          (try clear BK348)
          (try clear HB)
          generalize ((((w13.setCell ⟨gb348, 0, none⟩ (.int .i64 ((rd_T48 l0 x9_1).f0))).setCell ⟨gb348, 1, none⟩ (.int .i64 ((rd_T48 l0 x9_1).f1))).setCell ⟨gb348, 2, none⟩ (.int .i64 ((rd_T48 l0 x9_1).f2))).setCell ⟨gb348, 3, none⟩ (.bool ((rd_T48 l0 x9_1).f3))) = w17 at n0_ n1_ n2_ n3_ ⊢
          have HO_3 := n0_
          have BK346 := n1_
          have BK348 := n2_
          have HB := n3_
          clear n0_ n1_ n2_ n3_
          have n0_ := Aside0.mk (Kd.R_drew HO_3.out)
          have n1_ := Aside0.mk (blk_drew BK346.out)
          have n2_ := Aside0.mk (blk_drew BK348.out)
          have n3_ := Aside0.mk (below_drew1 HB.out)
          clear HO_3
          clear BK346
          clear BK348
          clear HB
          have HO_3 := n0_
          have BK346 := n1_
          have BK348 := n2_
          have HB := n3_
          clear n0_ n1_ n2_ n3_
          have p349 : 0 ≤ ((ji7) : Int) := of_decide_eq_true (by first | (with_reducible assumption) | assumption)
          have q349 : (ji7) < (x3_1.length : Int) := of_decide_eq_true (by first | (with_reducible assumption) | assumption)
          obtain ⟨ad349, e349, hx349_0, hx349_1, hx349_2, hx349_3⟩ := at_T48 (Kd.R_reads' HO_3.out).2.2 (ji7) p349 q349
          cases e349
          replace p349 := eq_true p349
          replace q349 := eq_true q349
          refine start_ (n := 10) (S := fun w' => w'.cell? ⟨gb348, 0, none⟩ = some (.int .i64 ((rd_T48 l0 x9_1).f0)) ∧ w'.cell? ⟨gb348, 1, none⟩ = some (.int .i64 ((rd_T48 l0 x9_1).f1)) ∧ w'.cell? ⟨gb348, 2, none⟩ = some (.int .i64 ((rd_T48 l0 x9_1).f2)) ∧ w'.cell? ⟨gb348, 3, none⟩ = some (.bool ((rd_T48 l0 x9_1).f3)) ∧ w'.cell? (ad349.add (((ji7)).toNat * 4)) = some (.int .i64 ((rd_T48 x3_1 (ji7)).f0)) ∧ w'.cell? ⟨(ad349.add (((ji7)).toNat * 4)).block, (ad349.add (((ji7)).toNat * 4)).off + 1, none⟩ = some (.int .i64 ((rd_T48 x3_1 (ji7)).f1)) ∧ w'.cell? ⟨(ad349.add (((ji7)).toNat * 4)).block, (ad349.add (((ji7)).toNat * 4)).off + 2, none⟩ = some (.int .i64 ((rd_T48 x3_1 (ji7)).f2)) ∧ w'.cell? ⟨(ad349.add (((ji7)).toNat * 4)).block, (ad349.add (((ji7)).toNat * 4)).off + 3, none⟩ = some (.bool ((rd_T48 x3_1 (ji7)).f3))) (ds := []) #[false, false, false, false, false, false, false, false, false, false] (by kernel_rfl) rfl rfl ⟨(blk_cell BK348.out 0).trans rfl, (blk_cell BK348.out 1).trans rfl, (blk_cell BK348.out 2).trans rfl, (blk_cell BK348.out 3).trans rfl, hx349_0, hx349_1, hx349_2, hx349_3⟩ (fun hHeld => ?_); refine with_tabW spec_l9Joined.tab6 spec_l9Joined.bits6 (fun HT_ HW_ => ?_)
          generalize w17.drew = w18 at HO_3 BK346 BK348 HB hx349_0 hx349_1 hx349_2 hx349_3 hHeld ⊢
          refine pure_ (i := 0) (N := some 16) (v := ?_) (a' := ?_) #[true, false, false, false, false, false, false, false, false, false] rfl rfl (any_of HT_.out (by kernel_rfl)) (fun _ _ _ h => h) (Or.inl ⟨by rfl, ?_⟩) ?_ ?_
          rotate_left
          ·
           intro w'
           go_simp
           with_reducible rfl
          rotate_left
          ·
           simp only [Act.put, List.setIfInBounds_toArray, List.set_cons_zero, List.set_cons_succ, i64_w, i32_w]
           rfl
          refine pure_ (i := 1) (N := some 17) (v := ?_) (a' := ?_) #[true, true, false, false, false, false, false, false, false, false] rfl rfl (any_of HT_.out (by kernel_rfl)) (fun _ _ _ h => h) (Or.inl ⟨by rfl, ?_⟩) ?_ ?_
          rotate_left
          ·
           intro w'
           go_simp
           with_reducible rfl
          rotate_left
          ·
           simp only [Act.put, List.setIfInBounds_toArray, List.set_cons_zero, List.set_cons_succ, i64_w, i32_w]
           rfl
          refine pure_ (i := 2) (N := some 18) (v := ?_) (a' := ?_) #[true, true, true, false, false, false, false, false, false, false] rfl rfl (any_of HT_.out (by kernel_rfl)) (fun _ _ _ h => h) (Or.inl ⟨by rfl, ?_⟩) ?_ ?_
          rotate_left
          ·
           intro w'
           go_simp
           with_reducible rfl
          rotate_left
          ·
           simp only [Act.put, List.setIfInBounds_toArray, List.set_cons_zero, List.set_cons_succ, i64_w, i32_w]
           rfl
          refine pure_ (i := 3) (N := some 19) (v := ?_) (a' := ?_) #[true, true, true, true, false, false, false, false, false, false] rfl rfl (any_of HT_.out (by kernel_rfl)) (fun _ _ _ h => h) (Or.inl ⟨by rfl, ?_⟩) ?_ ?_
          rotate_left
          ·
           intro w'
           go_simp
           with_reducible rfl
          rotate_left
          ·
           simp only [Act.put, List.setIfInBounds_toArray, List.set_cons_zero, List.set_cons_succ, i64_w, i32_w]
           rfl
          refine pure_ (i := 4) (N := some 20) (v := ?_) (a' := ?_) #[true, true, true, true, true, false, false, false, false, false] rfl rfl (any_of HT_.out (by kernel_rfl)) (fun _ _ _ h => h) (Or.inl ⟨by rfl, ?_⟩) ?_ ?_
          rotate_left
          ·
           intro w'
           go_simp
           with_reducible rfl
          rotate_left
          ·
           simp only [Act.put, List.setIfInBounds_toArray, List.set_cons_zero, List.set_cons_succ, i64_w, i32_w]
           rfl
          refine pure_ (i := 5) (N := some 21) (v := ?_) (a' := ?_) #[true, true, true, true, true, true, false, false, false, false] rfl rfl (any_of HT_.out (by kernel_rfl)) (fun _ _ _ h => h) (Or.inl ⟨by rfl, ?_⟩) ?_ ?_
          rotate_left
          ·
           intro w'
           go_simp
           with_reducible rfl
          rotate_left
          ·
           simp only [Act.put, List.setIfInBounds_toArray, List.set_cons_zero, List.set_cons_succ, i64_w, i32_w]
           rfl
          refine take_ (i := 6) (N := some 22) (v := ?_) (a' := ?_) #[true, true, true, true, true, true, true, false, false, false] rfl rfl (take_ofW HT_.out HW_.out (by kernel_rfl)) (fun _ _ _ h => h) (Or.inl ⟨by rfl, ?_⟩) hHeld ?_ ?_
          rotate_left
          ·
           rintro w' ⟨s0, s1, s2, s3, s4, s5, s6, s7⟩
           go_simp
           with_reducible rfl
          rotate_left
          ·
           simp only [Act.put, List.setIfInBounds_toArray, List.set_cons_zero, List.set_cons_succ, i64_w, i32_w]
           rfl
          refine take_ (i := 7) (N := some 23) (v := ?_) (a' := ?_) #[true, true, true, true, true, true, true, true, false, false] rfl rfl (take_ofW HT_.out HW_.out (by kernel_rfl)) (fun _ _ _ h => h) (Or.inl ⟨by rfl, ?_⟩) hHeld ?_ ?_
          rotate_left
          ·
           rintro w' ⟨s0, s1, s2, s3, s4, s5, s6, s7⟩
           go_simp
           with_reducible rfl
          rotate_left
          ·
           simp only [Act.put, List.setIfInBounds_toArray, List.set_cons_zero, List.set_cons_succ, i64_w, i32_w]
           rfl
          refine one_ (i := 8) (N := some 24) #[true, true, true, true, true, true, true, true, true, false] rfl rfl (one_of HT_.out (by kernel_rfl)) (by decide) (fun K hK => ?_)
          refine goes_ Try.func49 (by kernel_rfl) rfl #[.agg #[.int .i64 ((rd_T48 x3_1 (ji7)).f0), .int .i64 ((rd_T48 x3_1 (ji7)).f1), .int .i64 ((rd_T48 x3_1 (ji7)).f2), .bool ((rd_T48 x3_1 (ji7)).f3)], .agg #[.int .i64 ((rd_T48 l0 x9_1).f0), .int .i64 ((rd_T48 l0 x9_1).f1), .int .i64 ((rd_T48 l0 x9_1).f2), .bool ((rd_T48 l0 x9_1).f3)]] (by rfl) rfl rfl (by (try simp only [List.map_toArray, List.map_cons, List.map_nil]); first | done | (simp only [hji7]; rfl) | rfl | (simp only [List.length_drop, List.length_take]; rfl)) ?_
          with_reducible refine (spec_l9Goes.calls ((rd_T48 x3_1 (ji7)).f0) ((rd_T48 x3_1 (ji7)).f1) ((rd_T48 x3_1 (ji7)).f2) ((rd_T48 x3_1 (ji7)).f3) ((rd_T48 l0 x9_1).f0) ((rd_T48 l0 x9_1).f1) ((rd_T48 l0 x9_1).f2) ((rd_T48 l0 x9_1).f3) true _ A10.out).mono ?_
          rintro e w19 ⟨rfl, hb⟩
          have HS4_ := (hb.cell (World.block_lt_of_cell? _ _ (hHeld.2.2.2.2.1))).trans (hHeld.2.2.2.2.1)
          have HS5_ := (hb.cell (World.block_lt_of_cell? _ _ (hHeld.2.2.2.2.2.1))).trans (hHeld.2.2.2.2.2.1)
          have HS6_ := (hb.cell (World.block_lt_of_cell? _ _ (hHeld.2.2.2.2.2.2.1))).trans (hHeld.2.2.2.2.2.2.1)
          have HS7_ := (hb.cell (World.block_lt_of_cell? _ _ (hHeld.2.2.2.2.2.2.2))).trans (hHeld.2.2.2.2.2.2.2)
          refine ⟨_, rfl, ?_⟩
          have n0_ := Aside0.mk (Kd.R_below (rr HO_3.out) hb)
          have n1_ := Aside0.mk (bb BK346 hb)
          have n2_ := Aside0.mk (bb BK348 hb)
          have n3_ := Aside0.mk (below_step (bs2 HB GE346 GE348) hb)
          clear HO_3
          clear BK346
          clear BK348
          clear HB
          have HO_3 := n0_
          have BK346 := n1_
          have BK348 := n2_
          have HB := n3_
          clear n0_ n1_ n2_ n3_
          (try clear hb)
          (try clear hb2)
          (try clear hk)
          (try clear hi)
          refine hK.out _ _ ⟨(blk_cell BK348.out 0).trans rfl, (blk_cell BK348.out 1).trans rfl, (blk_cell BK348.out 2).trans rfl, (blk_cell BK348.out 3).trans rfl, HS4_, HS5_, HS6_, HS7_⟩ (fun hHeld => ?_)
          clear hK K
          refine norm_ (a' := ?_) ?_ ?_
          rotate_left
          ·
           show Act.put _ (some 24) _ = _
           simp only [Act.put, List.setIfInBounds_toArray, List.set_cons_zero, List.set_cons_succ, i64_w, i32_w]
           rfl
          refine pure_ (i := 9) (N := some 25) (v := ?_) (a' := ?_) #[true, true, true, true, true, true, true, true, true, true] rfl rfl (any_of HT_.out (by kernel_rfl)) (fun _ _ _ h => h) (Or.inl ⟨by rfl, ?_⟩) ?_ ?_
          rotate_left
          ·
           intro w'
           go_simp
           with_reducible rfl
          rotate_left
          ·
           simp only [Act.put, List.setIfInBounds_toArray, List.set_cons_zero, List.set_cons_succ, i64_w, i32_w]
           rfl
          refine done_ (done_of HT_.out (by kernel_rfl)) ?_
          try go_wp2
          have n0_ := Aside0.mk (Kd.R_drew HO_3.out)
          have n1_ := Aside0.mk (blk_drew BK346.out)
          have n2_ := Aside0.mk (blk_drew BK348.out)
          have n3_ := Aside0.mk (below_drew1 HB.out)
          clear HO_3
          clear BK346
          clear BK348
          clear HB
          have HO_3 := n0_
          have BK346 := n1_
          have BK348 := n2_
          have HB := n3_
          clear n0_ n1_ n2_ n3_
          have p351 : 0 ≤ ((ji7) : Int) := of_decide_eq_true (by first | (with_reducible assumption) | assumption)
          have q351 : (ji7) < (x3_1.length : Int) := of_decide_eq_true (by first | (with_reducible assumption) | assumption)
          obtain ⟨ad351, e351, hx351_0, hx351_1, hx351_2, hx351_3⟩ := at_T48 (Kd.R_reads' HO_3.out).2.2 (ji7) p351 q351
          obtain rfl : ad349 = ad351 := (by injection e351)
          replace p351 := eq_true p351
          replace q351 := eq_true q351
          have p12 : 0 ≤ ((ji7) : Int) := of_decide_eq_true (by first | (with_reducible assumption) | assumption)
          have q12 : ((ji7) : Int) < ((x3_1.length : Int) : Int) := of_decide_eq_true (by first | (with_reducible assumption) | assumption)
          obtain ⟨go12, co12, eo12, gb12, gl12, cl12, HG12⟩ := Kd.R_form HO_3.out (by omega)
          (first | cases eo12 | (injection eo12 with ea_ en_ ec_; (first | subst ea_ | (injection ea_ with ea_; subst ea_)); subst ec_; clear en_))
          have GB12 := Aside0.mk gb12
          have GG12 := Aside0.mk HG12
          clear gb12 gl12 HG12
          (first | simp only [add_plain] at hx349_0 | skip)
          (first | simp only [add_plain] at hx349_1 | skip)
          (first | simp only [add_plain] at hx349_2 | skip)
          (first | simp only [add_plain] at hx349_3 | skip)
          (first | simp only [add_plain] at hx351_0 | skip)
          (first | simp only [add_plain] at hx351_1 | skip)
          (first | simp only [add_plain] at hx351_2 | skip)
          (first | simp only [add_plain] at hx351_3 | skip)
          obtain ⟨ce12, hcl12, hM12, hcc12, hfr12⟩ := Kd.R_elem HO_3.out z48 ((ji7) : Int) p12 q12
          obtain rfl := k48_openM hM12
          have hx12_0 : World.cell? _ ⟨go12, ((ji7) : Int).toNat * 4, none⟩ = some (.int .i64 ((rd_T48 x3_1 (ji7)).f0)) := hcc12 0 _ rfl
          have hx12_1 : World.cell? _ ⟨go12, ((ji7) : Int).toNat * 4 + 1, none⟩ = some (.int .i64 ((rd_T48 x3_1 (ji7)).f1)) := hcc12 1 _ rfl
          have hx12_2 : World.cell? _ ⟨go12, ((ji7) : Int).toNat * 4 + 2, none⟩ = some (.int .i64 ((rd_T48 x3_1 (ji7)).f2)) := hcc12 2 _ rfl
          have hx12_3 : World.cell? _ ⟨go12, ((ji7) : Int).toNat * 4 + 3, none⟩ = some (.bool ((rd_T48 x3_1 (ji7)).f3)) := hcc12 3 _ rfl
          have hf12_0 : World.frozen? _ ⟨go12, ((ji7) : Int).toNat * 4, none⟩ = false := hfr12 0
          have hf12_1 : World.frozen? _ ⟨go12, ((ji7) : Int).toNat * 4 + 1, none⟩ = false := hfr12 1
          have hf12_2 : World.frozen? _ ⟨go12, ((ji7) : Int).toNat * 4 + 2, none⟩ = false := hfr12 2
          have hf12_3 : World.frozen? _ ⟨go12, ((ji7) : Int).toNat * 4 + 3, none⟩ = false := hfr12 3
          clear hcl12 hcc12 hfr12 hM12
          replace p12 := eq_true p12
          replace q12 := eq_true q12
          obtain ⟨ce21, hcl21, hM21, hcc21, hfr21⟩ := Kd.R_elem HO_3.out z48 ((ji7) : Int) (of_decide_eq_true (by first | (with_reducible assumption) | assumption)) (by have h_ : ((ji7) : Int) < ((x3_1.length : Int) : Int) := of_decide_eq_true (by first | (with_reducible assumption) | assumption); first | exact h_ | (have e_ := (Kd.R_reads' HO_3.out).1; omega) | simpa using h_)
          obtain rfl := k48_openM hM21
          have HP21 := (Kd.R_seg HO_3.out ((ji7) : Int) (of_decide_eq_true (by first | (with_reducible assumption) | assumption)) (by have h_ : ((ji7) : Int) < ((x3_1.length : Int) : Int) := of_decide_eq_true (by first | (with_reducible assumption) | assumption); first | exact h_ | (have e_ := (Kd.R_reads' HO_3.out).1; omega) | simpa using h_) (seg := [.int .i64 (wrap64 (((rd_T48 x3_1 (ji7)).f1) + ((rd_T48 l0 x9_1).f1)))]) (j := 1) hcl21 hcc21 (show 2 ≤ 4 from by decide) (x' := (⟨(rd_T48 x3_1 (ji7)).f0, wrap64 (((rd_T48 x3_1 (ji7)).f1) + ((rd_T48 l0 x9_1).f1)), (rd_T48 x3_1 (ji7)).f2, (rd_T48 x3_1 (ji7)).f3⟩ : S48)) (k48_mkM _ _ _ (⟨(rd_T48 x3_1 (ji7)).f0, wrap64 (((rd_T48 x3_1 (ji7)).f1) + ((rd_T48 l0 x9_1).f1)), (rd_T48 x3_1 (ji7)).f2, (rd_T48 x3_1 (ji7)).f3⟩ : S48) ) (fun _ hk => hk)).1
          rw [← Ny352.out] at HP21
          have HQ21 := Aside0.mk HP21
          clear hcl21 hcc21 hfr21 hM21 HP21
          refine start_ (n := 11) (S := fun w' => w'.cell? ⟨gb348, 0, none⟩ = some (.int .i64 ((rd_T48 l0 x9_1).f0)) ∧ w'.cell? ⟨gb348, 1, none⟩ = some (.int .i64 ((rd_T48 l0 x9_1).f1)) ∧ w'.cell? ⟨gb348, 2, none⟩ = some (.int .i64 ((rd_T48 l0 x9_1).f2)) ∧ w'.cell? ⟨gb348, 3, none⟩ = some (.bool ((rd_T48 l0 x9_1).f3)) ∧ w'.cell? ⟨go12, (((ji7)).toNat * 4), none⟩ = some (.int .i64 ((rd_T48 x3_1 (ji7)).f0)) ∧ w'.cell? ⟨go12, (((ji7)).toNat * 4) + 1, none⟩ = some (.int .i64 ((rd_T48 x3_1 (ji7)).f1)) ∧ w'.cell? ⟨go12, (((ji7)).toNat * 4) + 2, none⟩ = some (.int .i64 ((rd_T48 x3_1 (ji7)).f2)) ∧ w'.cell? ⟨go12, (((ji7)).toNat * 4) + 3, none⟩ = some (.bool ((rd_T48 x3_1 (ji7)).f3))) (ds := [10]) #[false, false, false, false, false, false, false, false, false, false, false] (by kernel_rfl) rfl rfl ⟨(blk_cell BK348.out 0).trans rfl, (blk_cell BK348.out 1).trans rfl, (blk_cell BK348.out 2).trans rfl, (blk_cell BK348.out 3).trans rfl, hx351_0, hx351_1, hx351_2, hx351_3⟩ (fun hHeld => ?_); refine with_tabW spec_l9Joined.tab7 spec_l9Joined.bits7 (fun HT_ HW_ => ?_)
          generalize w19.drew = w20 at HO_3 BK346 BK348 HB GG12 HQ21 hf12_0 hf12_1 hf12_2 hf12_3 hx12_0 hx12_1 hx12_2 hx12_3 hx349_0 hx349_1 hx349_2 hx349_3 hx351_0 hx351_1 hx351_2 hx351_3 hHeld ⊢
          refine pure_ (i := 0) (N := some 26) (v := ?_) (a' := ?_) #[true, false, false, false, false, false, false, false, false, false, false] rfl rfl (any_of HT_.out (by kernel_rfl)) (fun _ _ _ h => h) (Or.inl ⟨by rfl, ?_⟩) ?_ ?_
          rotate_left
          ·
           intro w'
           go_simp
           with_reducible rfl
          rotate_left
          ·
           simp only [Act.put, List.setIfInBounds_toArray, List.set_cons_zero, List.set_cons_succ, i64_w, i32_w]
           rfl
          refine pure_ (i := 1) (N := some 27) (v := ?_) (a' := ?_) #[true, true, false, false, false, false, false, false, false, false, false] rfl rfl (any_of HT_.out (by kernel_rfl)) (fun _ _ _ h => h) (Or.inl ⟨by rfl, ?_⟩) ?_ ?_
          rotate_left
          ·
           intro w'
           go_simp
           with_reducible rfl
          rotate_left
          ·
           simp only [Act.put, List.setIfInBounds_toArray, List.set_cons_zero, List.set_cons_succ, i64_w, i32_w]
           rfl
          refine pure_ (i := 2) (N := some 28) (v := ?_) (a' := ?_) #[true, true, true, false, false, false, false, false, false, false, false] rfl rfl (any_of HT_.out (by kernel_rfl)) (fun _ _ _ h => h) (Or.inl ⟨by rfl, ?_⟩) ?_ ?_
          rotate_left
          ·
           intro w'
           go_simp
           with_reducible rfl
          rotate_left
          ·
           simp only [Act.put, List.setIfInBounds_toArray, List.set_cons_zero, List.set_cons_succ, i64_w, i32_w]
           rfl
          refine pure_ (i := 3) (N := some 29) (v := ?_) (a' := ?_) #[true, true, true, true, false, false, false, false, false, false, false] rfl rfl (any_of HT_.out (by kernel_rfl)) (fun _ _ _ h => h) (Or.inl ⟨by rfl, ?_⟩) ?_ ?_
          rotate_left
          ·
           intro w'
           go_simp
           with_reducible rfl
          rotate_left
          ·
           simp only [Act.put, List.setIfInBounds_toArray, List.set_cons_zero, List.set_cons_succ, i64_w, i32_w]
           rfl
          refine pure_ (i := 5) (N := some 31) (v := ?_) (a' := ?_) #[true, true, true, true, false, true, false, false, false, false, false] rfl rfl (any_of HT_.out (by kernel_rfl)) (fun _ _ _ h => h) (Or.inl ⟨by rfl, ?_⟩) ?_ ?_
          rotate_left
          ·
           intro w'
           go_simp
           with_reducible rfl
          rotate_left
          ·
           simp only [Act.put, List.setIfInBounds_toArray, List.set_cons_zero, List.set_cons_succ, i64_w, i32_w]
           rfl
          refine take_ (i := 4) (N := some 30) (v := ?_) (a' := ?_) #[true, true, true, true, true, true, false, false, false, false, false] rfl rfl (take_ofW HT_.out HW_.out (by kernel_rfl)) (fun _ _ _ h => h) (Or.inl ⟨by rfl, ?_⟩) hHeld ?_ ?_
          rotate_left
          ·
           rintro w' ⟨s0, s1, s2, s3, s4, s5, s6, s7⟩
           go_simp
           with_reducible rfl
          rotate_left
          ·
           simp only [Act.put, List.setIfInBounds_toArray, List.set_cons_zero, List.set_cons_succ, i64_w, i32_w]
           rfl
          refine take_ (i := 6) (N := some 32) (v := ?_) (a' := ?_) #[true, true, true, true, true, true, true, false, false, false, false] rfl rfl (take_ofW HT_.out HW_.out (by kernel_rfl)) (fun _ _ _ h => h) (Or.inl ⟨by rfl, ?_⟩) hHeld ?_ ?_
          rotate_left
          ·
           rintro w' ⟨s0, s1, s2, s3, s4, s5, s6, s7⟩
           go_simp
           with_reducible rfl
          rotate_left
          ·
           simp only [Act.put, List.setIfInBounds_toArray, List.set_cons_zero, List.set_cons_succ, i64_w, i32_w]
           rfl
          refine pure_ (i := 7) (N := some 33) (v := ?_) (a' := ?_) #[true, true, true, true, true, true, true, true, false, false, false] rfl rfl (any_of HT_.out (by kernel_rfl)) (fun _ _ _ h => h) (Or.inl ⟨by rfl, ?_⟩) ?_ ?_
          rotate_left
          ·
           intro w'
           go_simp
           with_reducible rfl
          rotate_left
          ·
           simp only [Act.put, List.setIfInBounds_toArray, List.set_cons_zero, List.set_cons_succ, i64_w, i32_w]
           rfl
          refine pure_ (i := 8) (N := some 34) (v := ?_) (a' := ?_) #[true, true, true, true, true, true, true, true, true, false, false] rfl rfl (any_of HT_.out (by kernel_rfl)) (fun _ _ _ h => h) (Or.inl ⟨by rfl, ?_⟩) ?_ ?_
          rotate_left
          ·
           intro w'
           go_simp
           with_reducible rfl
          rotate_left
          ·
           simp only [Act.put, List.setIfInBounds_toArray, List.set_cons_zero, List.set_cons_succ, i64_w, i32_w]
           rfl
          refine pure_ (i := 9) (N := some 35) (v := ?_) (a' := ?_) #[true, true, true, true, true, true, true, true, true, true, false] rfl rfl (any_of HT_.out (by kernel_rfl)) (fun _ _ _ h => h) (Or.inl ⟨by rfl, ?_⟩) ?_ ?_
          rotate_left
          ·
           intro w'
           go_simp
           with_reducible rfl
          rotate_left
          ·
           simp only [Act.put, List.setIfInBounds_toArray, List.set_cons_zero, List.set_cons_succ, i64_w, i32_w]
           rfl
          refine last_ (i := 10) (N := none) #[true, true, true, true, true, true, true, true, true, true, true] rfl rfl (one_of HT_.out (by kernel_rfl)) (by decide) (fun K hK => ?_)
          refine skip_ (w1 := ?_) (by rfl) rfl ?_ ?_
          rotate_left
          ·
           go_simp
           rfl
          refine hK.out _ _ ?_
          clear hK K
          refine done_ (done_of HT_.out (by kernel_rfl)) ?_
          try go_wp2
          go_roundg k1
          case measure => have := HK1.out; omega
          case rel => exact ⟨(y352), (wrap64 (x9_1 + 1)), (by first | rfl | (simp; done) | (simp [*]; done)), H', ⟨by have := HK1.out; omega⟩, ⟨by (with_reducible repeat (first | apply Kd.R_alloc | apply Kd.R_drewN | apply Kd.R_drew)); exact Kd.R_mono HQ21.out (fun _ hk => trivial)⟩, ⟨by (with_reducible repeat (first | refine blk_drewN ?_ _ | refine blk_drew ?_ | refine blk_alloc ?_ _)); refine blk_far ?_ (by have h_ := Kd.R_ne HO_3.out BK346.out (by decide); intro e_; exact h_ (by rw [e_]; rfl)) _; (with_reducible repeat (first | refine blk_drewN ?_ _ | refine blk_drew ?_ | refine blk_alloc ?_ _)); exact BK346.out⟩, ⟨by repeat (first | (with_reducible first | exact HB.out | apply below_alloc | apply pw_below_drewN | apply below_drew1 | refine below_set ?_ GB12.out | refine below_set ?_ GE346.out | refine below_set ?_ GE348.out) | exact HB.out)⟩⟩
         ·
          replace c11 := Bool.eq_false_iff.mpr c11
          subst c11
          rw [if_neg (show ¬ (false = true) by decide)] at H
          by_cases c22 : x3_1.length < 4398046511104
          ·
           rw [if_pos c22] at H
           have LMc22 := Aside0.mk c22
           clear c22
           obtain ⟨y353, hy353⟩ : ∃ y_ : List (S48), y_ = (x3_1 ++ [(⟨(rd_T48 l0 x9_1).f0, (rd_T48 l0 x9_1).f1, (rd_T48 l0 x9_1).f2, (rd_T48 l0 x9_1).f3⟩ : S48)]) := ⟨_, rfl⟩
           replace H : (spec_l9Joined.l0 k1 y353 l0 (l0.length : Int) (wrap64 (x9_1 + 1))) = some r := by first | (rw [hy353]; with_reducible exact H) | (have H2_ := (Option.bind_some _ _).symm.trans H; rw [hy353]; with_reducible exact H2_) | (have H2_ := (Option.bind_some _ _).symm.trans H; with_reducible exact H2_) | with_reducible exact H | (rw [hy353]; exact H) | exact H
           have Ny353 := Aside0.mk hy353
           clear hy353
           have H' := Aside0.mk H
           clear H
           have p347 : 0 ≤ (x9_1 : Int) := of_decide_eq_true (by first | (with_reducible assumption) | assumption)
           have q347 : x9_1 < (l0.length : Int) := of_decide_eq_true (by first | (with_reducible assumption) | assumption)
           obtain ⟨ad347, e347, hx347_0, hx347_1, hx347_2, hx347_3⟩ := at_T48 HR0.out x9_1 p347 q347
           cases e347
           replace hx347_0 := (HB.out.cell (World.block_lt_of_cell? w _ hx347_0)).trans hx347_0
           replace hx347_1 := (HB.out.cell (World.block_lt_of_cell? w _ hx347_1)).trans hx347_1
           replace hx347_2 := (HB.out.cell (World.block_lt_of_cell? w _ hx347_2)).trans hx347_2
           replace hx347_3 := (HB.out.cell (World.block_lt_of_cell? w _ hx347_3)).trans hx347_3
           replace p347 := eq_true p347
           replace q347 := eq_true q347
           try go_wp2_with (first | ((with_reducible refine gate_dst (N := 5) rfl ?_); refine box_event ?hg (N := 5) ?hd (cs := #[.int .i64 0, .int .i64 0, .int .i64 0, .bool false]) (t := 48) ?hr ?_; (case hd => rfl); (case hg => rfl); (case hr => first | (go_simp; done) | (go_simp; rfl)); intro gb348 hg w23 hbox hb; replace HO_3 := Aside0.mk (Kd.R_below (Kd.R_elderB (rr HO_3.out) gb348 (Nat.le_of_eq hg.symm)) hb); have BK348 := Aside0.mk (hbox); have GW348 := Aside0.mk ((by rw [hg]; exact (below_size (bs1 HB GE346)) : w.heap.size ≤ gb348)); have GE348 := Aside0.mk ((by rw [hg]; exact (below_size (bs1 HB GE346)) : w.heap.size ≤ gb348)); replace HB := Aside0.mk (below_step (bs1 HB GE346) hb); have NB346_348 := Aside0.mk ((bn BK346 hg : gb346 ≠ gb348)); have NB348_346 := Aside0.mk ((bm BK346 hg : gb348 ≠ gb346)); replace BK346 := nb BK346 hb; clear hb hbox hg; have hnb24 := NB348_346.out; have hnc24 := NB346_348.out; obtain ⟨hcz25_0, hcz25_1, hcz25_2, hcz25_3⟩ := cz4 BK348; obtain ⟨hfz25_0, hfz25_1, hfz25_2, hfz25_3⟩ := fz4 BK348; obtain ⟨Ao26, co26, eo26⟩ := Kd.R_slice HO_3.out; subst eo26))
           have n0_ : Aside0 (Kd.R k48 48 ((((w23.setCell ⟨gb348, 0, none⟩ (.int .i64 ((rd_T48 l0 x9_1).f0))).setCell ⟨gb348, 1, none⟩ (.int .i64 ((rd_T48 l0 x9_1).f1))).setCell ⟨gb348, 2, none⟩ (.int .i64 ((rd_T48 l0 x9_1).f2))).setCell ⟨gb348, 3, none⟩ (.bool ((rd_T48 l0 x9_1).f3))) w.heap.size (fun k_ => k_ ≠ gb348) (.slice Ao26 x3_1.length co26) x3_1) := ⟨by (with_reducible repeat (first | apply Kd.R_alloc | apply Kd.R_drewN | apply Kd.R_drew)); exact Kd.R_mono (Kd.R_far (p := ⟨gb348, 3, none⟩) (Kd.R_far (p := ⟨gb348, 2, none⟩) (Kd.R_far (p := ⟨gb348, 1, none⟩) (Kd.R_far (p := ⟨gb348, 0, none⟩) (Kd.R_mono HO_3.out (fun k_ hk => (⟨hk, hk.2⟩ : _ ∧ k_ ≠ gb348))) (fun _ hk => hk.2) (.int .i64 ((rd_T48 l0 x9_1).f0))) (fun _ hk => hk.2) (.int .i64 ((rd_T48 l0 x9_1).f1))) (fun _ hk => hk.2) (.int .i64 ((rd_T48 l0 x9_1).f2))) (fun _ hk => hk.2) (.bool ((rd_T48 l0 x9_1).f3))) (fun _ hk => hk.1.2)⟩
           have n1_ : Aside0 (((((w23.setCell ⟨gb348, 0, none⟩ (.int .i64 ((rd_T48 l0 x9_1).f0))).setCell ⟨gb348, 1, none⟩ (.int .i64 ((rd_T48 l0 x9_1).f1))).setCell ⟨gb348, 2, none⟩ (.int .i64 ((rd_T48 l0 x9_1).f2))).setCell ⟨gb348, 3, none⟩ (.bool ((rd_T48 l0 x9_1).f3))).heap[gb346]? = some (.cells #[.slice none 0 0] 29 (0, 0))) := ⟨bf BK346 NB346_348⟩
           have n2_ : Aside0 (((((w23.setCell ⟨gb348, 0, none⟩ (.int .i64 ((rd_T48 l0 x9_1).f0))).setCell ⟨gb348, 1, none⟩ (.int .i64 ((rd_T48 l0 x9_1).f1))).setCell ⟨gb348, 2, none⟩ (.int .i64 ((rd_T48 l0 x9_1).f2))).setCell ⟨gb348, 3, none⟩ (.bool ((rd_T48 l0 x9_1).f3))).heap[gb348]? = some (.cells #[.int .i64 ((rd_T48 l0 x9_1).f0), .int .i64 ((rd_T48 l0 x9_1).f1), .int .i64 ((rd_T48 l0 x9_1).f2), .bool ((rd_T48 l0 x9_1).f3)] 48 (0, 0))) := ⟨by (with_reducible repeat (first | refine blk_drewN ?_ _ | refine blk_drew ?_ | refine blk_alloc ?_ _)); refine blk_put (cs := #[.int .i64 ((rd_T48 l0 x9_1).f0), .int .i64 ((rd_T48 l0 x9_1).f1), .int .i64 ((rd_T48 l0 x9_1).f2), .bool false]) ?_ 3 _ rfl; (with_reducible repeat (first | refine blk_drewN ?_ _ | refine blk_drew ?_ | refine blk_alloc ?_ _)); refine blk_put (cs := #[.int .i64 ((rd_T48 l0 x9_1).f0), .int .i64 ((rd_T48 l0 x9_1).f1), .int .i64 0, .bool false]) ?_ 2 _ rfl; (with_reducible repeat (first | refine blk_drewN ?_ _ | refine blk_drew ?_ | refine blk_alloc ?_ _)); refine blk_put (cs := #[.int .i64 ((rd_T48 l0 x9_1).f0), .int .i64 0, .int .i64 0, .bool false]) ?_ 1 _ rfl; (with_reducible repeat (first | refine blk_drewN ?_ _ | refine blk_drew ?_ | refine blk_alloc ?_ _)); refine blk_put (cs := #[.int .i64 0, .int .i64 0, .int .i64 0, .bool false]) ?_ 0 _ rfl; (with_reducible repeat (first | refine blk_drewN ?_ _ | refine blk_drew ?_ | refine blk_alloc ?_ _)); exact BK348.out⟩
           have n3_ : Aside0 (Below w.heap.size w ((((w23.setCell ⟨gb348, 0, none⟩ (.int .i64 ((rd_T48 l0 x9_1).f0))).setCell ⟨gb348, 1, none⟩ (.int .i64 ((rd_T48 l0 x9_1).f1))).setCell ⟨gb348, 2, none⟩ (.int .i64 ((rd_T48 l0 x9_1).f2))).setCell ⟨gb348, 3, none⟩ (.bool ((rd_T48 l0 x9_1).f3)))) := ⟨bs2 HB GE346 GE348⟩
           (try clear HO_3)
           (try clear BK346)
           (try clear BK348)
           (try clear HB)
           generalize ((((w23.setCell ⟨gb348, 0, none⟩ (.int .i64 ((rd_T48 l0 x9_1).f0))).setCell ⟨gb348, 1, none⟩ (.int .i64 ((rd_T48 l0 x9_1).f1))).setCell ⟨gb348, 2, none⟩ (.int .i64 ((rd_T48 l0 x9_1).f2))).setCell ⟨gb348, 3, none⟩ (.bool ((rd_T48 l0 x9_1).f3))) = w27 at n0_ n1_ n2_ n3_ ⊢
           have HO_3 := n0_
           have BK346 := n1_
           have BK348 := n2_
           have HB := n3_
           clear n0_ n1_ n2_ n3_
           have n0_ := Aside0.mk (Kd.R_drew HO_3.out)
           have n1_ := Aside0.mk (blk_drew BK346.out)
           have n2_ := Aside0.mk (blk_drew BK348.out)
           have n3_ := Aside0.mk (below_drew1 HB.out)
           clear HO_3
           clear BK346
           clear BK348
           clear HB
           have HO_3 := n0_
           have BK346 := n1_
           have BK348 := n2_
           have HB := n3_
           clear n0_ n1_ n2_ n3_
           have p349 : 0 ≤ ((ji7) : Int) := of_decide_eq_true (by first | (with_reducible assumption) | assumption)
           have q349 : (ji7) < (x3_1.length : Int) := of_decide_eq_true (by first | (with_reducible assumption) | assumption)
           obtain ⟨ad349, e349, hx349_0, hx349_1, hx349_2, hx349_3⟩ := at_T48 (Kd.R_reads' HO_3.out).2.2 (ji7) p349 q349
           cases e349
           replace p349 := eq_true p349
           replace q349 := eq_true q349
           refine start_ (n := 10) (S := fun w' => w'.cell? ⟨gb348, 0, none⟩ = some (.int .i64 ((rd_T48 l0 x9_1).f0)) ∧ w'.cell? ⟨gb348, 1, none⟩ = some (.int .i64 ((rd_T48 l0 x9_1).f1)) ∧ w'.cell? ⟨gb348, 2, none⟩ = some (.int .i64 ((rd_T48 l0 x9_1).f2)) ∧ w'.cell? ⟨gb348, 3, none⟩ = some (.bool ((rd_T48 l0 x9_1).f3)) ∧ w'.cell? (ad349.add (((ji7)).toNat * 4)) = some (.int .i64 ((rd_T48 x3_1 (ji7)).f0)) ∧ w'.cell? ⟨(ad349.add (((ji7)).toNat * 4)).block, (ad349.add (((ji7)).toNat * 4)).off + 1, none⟩ = some (.int .i64 ((rd_T48 x3_1 (ji7)).f1)) ∧ w'.cell? ⟨(ad349.add (((ji7)).toNat * 4)).block, (ad349.add (((ji7)).toNat * 4)).off + 2, none⟩ = some (.int .i64 ((rd_T48 x3_1 (ji7)).f2)) ∧ w'.cell? ⟨(ad349.add (((ji7)).toNat * 4)).block, (ad349.add (((ji7)).toNat * 4)).off + 3, none⟩ = some (.bool ((rd_T48 x3_1 (ji7)).f3))) (ds := []) #[false, false, false, false, false, false, false, false, false, false] (by kernel_rfl) rfl rfl ⟨(blk_cell BK348.out 0).trans rfl, (blk_cell BK348.out 1).trans rfl, (blk_cell BK348.out 2).trans rfl, (blk_cell BK348.out 3).trans rfl, hx349_0, hx349_1, hx349_2, hx349_3⟩ (fun hHeld => ?_); refine with_tabW spec_l9Joined.tab6 spec_l9Joined.bits6 (fun HT_ HW_ => ?_)
           generalize w27.drew = w28 at HO_3 BK346 BK348 HB hx349_0 hx349_1 hx349_2 hx349_3 hHeld ⊢
           refine pure_ (i := 0) (N := some 16) (v := ?_) (a' := ?_) #[true, false, false, false, false, false, false, false, false, false] rfl rfl (any_of HT_.out (by kernel_rfl)) (fun _ _ _ h => h) (Or.inl ⟨by rfl, ?_⟩) ?_ ?_
           rotate_left
           ·
            intro w'
            go_simp
            with_reducible rfl
           rotate_left
           ·
            simp only [Act.put, List.setIfInBounds_toArray, List.set_cons_zero, List.set_cons_succ, i64_w, i32_w]
            rfl
           refine pure_ (i := 1) (N := some 17) (v := ?_) (a' := ?_) #[true, true, false, false, false, false, false, false, false, false] rfl rfl (any_of HT_.out (by kernel_rfl)) (fun _ _ _ h => h) (Or.inl ⟨by rfl, ?_⟩) ?_ ?_
           rotate_left
           ·
            intro w'
            go_simp
            with_reducible rfl
           rotate_left
           ·
            simp only [Act.put, List.setIfInBounds_toArray, List.set_cons_zero, List.set_cons_succ, i64_w, i32_w]
            rfl
           refine pure_ (i := 2) (N := some 18) (v := ?_) (a' := ?_) #[true, true, true, false, false, false, false, false, false, false] rfl rfl (any_of HT_.out (by kernel_rfl)) (fun _ _ _ h => h) (Or.inl ⟨by rfl, ?_⟩) ?_ ?_
           rotate_left
           ·
            intro w'
            go_simp
            with_reducible rfl
           rotate_left
           ·
            simp only [Act.put, List.setIfInBounds_toArray, List.set_cons_zero, List.set_cons_succ, i64_w, i32_w]
            rfl
           refine pure_ (i := 3) (N := some 19) (v := ?_) (a' := ?_) #[true, true, true, true, false, false, false, false, false, false] rfl rfl (any_of HT_.out (by kernel_rfl)) (fun _ _ _ h => h) (Or.inl ⟨by rfl, ?_⟩) ?_ ?_
           rotate_left
           ·
            intro w'
            go_simp
            with_reducible rfl
           rotate_left
           ·
            simp only [Act.put, List.setIfInBounds_toArray, List.set_cons_zero, List.set_cons_succ, i64_w, i32_w]
            rfl
           refine pure_ (i := 4) (N := some 20) (v := ?_) (a' := ?_) #[true, true, true, true, true, false, false, false, false, false] rfl rfl (any_of HT_.out (by kernel_rfl)) (fun _ _ _ h => h) (Or.inl ⟨by rfl, ?_⟩) ?_ ?_
           rotate_left
           ·
            intro w'
            go_simp
            with_reducible rfl
           rotate_left
           ·
            simp only [Act.put, List.setIfInBounds_toArray, List.set_cons_zero, List.set_cons_succ, i64_w, i32_w]
            rfl
           refine pure_ (i := 5) (N := some 21) (v := ?_) (a' := ?_) #[true, true, true, true, true, true, false, false, false, false] rfl rfl (any_of HT_.out (by kernel_rfl)) (fun _ _ _ h => h) (Or.inl ⟨by rfl, ?_⟩) ?_ ?_
           rotate_left
           ·
            intro w'
            go_simp
            with_reducible rfl
           rotate_left
           ·
            simp only [Act.put, List.setIfInBounds_toArray, List.set_cons_zero, List.set_cons_succ, i64_w, i32_w]
            rfl
           refine take_ (i := 6) (N := some 22) (v := ?_) (a' := ?_) #[true, true, true, true, true, true, true, false, false, false] rfl rfl (take_ofW HT_.out HW_.out (by kernel_rfl)) (fun _ _ _ h => h) (Or.inl ⟨by rfl, ?_⟩) hHeld ?_ ?_
           rotate_left
           ·
            rintro w' ⟨s0, s1, s2, s3, s4, s5, s6, s7⟩
            go_simp
            with_reducible rfl
           rotate_left
           ·
            simp only [Act.put, List.setIfInBounds_toArray, List.set_cons_zero, List.set_cons_succ, i64_w, i32_w]
            rfl
           refine take_ (i := 7) (N := some 23) (v := ?_) (a' := ?_) #[true, true, true, true, true, true, true, true, false, false] rfl rfl (take_ofW HT_.out HW_.out (by kernel_rfl)) (fun _ _ _ h => h) (Or.inl ⟨by rfl, ?_⟩) hHeld ?_ ?_
           rotate_left
           ·
            rintro w' ⟨s0, s1, s2, s3, s4, s5, s6, s7⟩
            go_simp
            with_reducible rfl
           rotate_left
           ·
            simp only [Act.put, List.setIfInBounds_toArray, List.set_cons_zero, List.set_cons_succ, i64_w, i32_w]
            rfl
           refine one_ (i := 8) (N := some 24) #[true, true, true, true, true, true, true, true, true, false] rfl rfl (one_of HT_.out (by kernel_rfl)) (by decide) (fun K hK => ?_)
           refine goes_ Try.func49 (by kernel_rfl) rfl #[.agg #[.int .i64 ((rd_T48 x3_1 (ji7)).f0), .int .i64 ((rd_T48 x3_1 (ji7)).f1), .int .i64 ((rd_T48 x3_1 (ji7)).f2), .bool ((rd_T48 x3_1 (ji7)).f3)], .agg #[.int .i64 ((rd_T48 l0 x9_1).f0), .int .i64 ((rd_T48 l0 x9_1).f1), .int .i64 ((rd_T48 l0 x9_1).f2), .bool ((rd_T48 l0 x9_1).f3)]] (by rfl) rfl rfl (by (try simp only [List.map_toArray, List.map_cons, List.map_nil]); first | done | (simp only [hji7]; rfl) | rfl | (simp only [List.length_drop, List.length_take]; rfl)) ?_
           with_reducible refine (spec_l9Goes.calls ((rd_T48 x3_1 (ji7)).f0) ((rd_T48 x3_1 (ji7)).f1) ((rd_T48 x3_1 (ji7)).f2) ((rd_T48 x3_1 (ji7)).f3) ((rd_T48 l0 x9_1).f0) ((rd_T48 l0 x9_1).f1) ((rd_T48 l0 x9_1).f2) ((rd_T48 l0 x9_1).f3) false _ A10.out).mono ?_
           rintro e w29 ⟨rfl, hb⟩
           have HS4_ := (hb.cell (World.block_lt_of_cell? _ _ (hHeld.2.2.2.2.1))).trans (hHeld.2.2.2.2.1)
           have HS5_ := (hb.cell (World.block_lt_of_cell? _ _ (hHeld.2.2.2.2.2.1))).trans (hHeld.2.2.2.2.2.1)
           have HS6_ := (hb.cell (World.block_lt_of_cell? _ _ (hHeld.2.2.2.2.2.2.1))).trans (hHeld.2.2.2.2.2.2.1)
           have HS7_ := (hb.cell (World.block_lt_of_cell? _ _ (hHeld.2.2.2.2.2.2.2))).trans (hHeld.2.2.2.2.2.2.2)
           refine ⟨_, rfl, ?_⟩
           have n0_ := Aside0.mk (Kd.R_below (rr HO_3.out) hb)
           have n1_ := Aside0.mk (bb BK346 hb)
           have n2_ := Aside0.mk (bb BK348 hb)
           have n3_ := Aside0.mk (below_step (bs2 HB GE346 GE348) hb)
           clear HO_3
           clear BK346
           clear BK348
           clear HB
           have HO_3 := n0_
           have BK346 := n1_
           have BK348 := n2_
           have HB := n3_
           clear n0_ n1_ n2_ n3_
           (try clear hb)
           (try clear hb2)
           (try clear hk)
           (try clear hi)
           refine hK.out _ _ ⟨(blk_cell BK348.out 0).trans rfl, (blk_cell BK348.out 1).trans rfl, (blk_cell BK348.out 2).trans rfl, (blk_cell BK348.out 3).trans rfl, HS4_, HS5_, HS6_, HS7_⟩ (fun hHeld => ?_)
           clear hK K
           refine norm_ (a' := ?_) ?_ ?_
           rotate_left
           ·
            show Act.put _ (some 24) _ = _
            simp only [Act.put, List.setIfInBounds_toArray, List.set_cons_zero, List.set_cons_succ, i64_w, i32_w]
            rfl
           refine pure_ (i := 9) (N := some 25) (v := ?_) (a' := ?_) #[true, true, true, true, true, true, true, true, true, true] rfl rfl (any_of HT_.out (by kernel_rfl)) (fun _ _ _ h => h) (Or.inl ⟨by rfl, ?_⟩) ?_ ?_
           rotate_left
           ·
            intro w'
            go_simp
            with_reducible rfl
           rotate_left
           ·
            simp only [Act.put, List.setIfInBounds_toArray, List.set_cons_zero, List.set_cons_succ, i64_w, i32_w]
            rfl
           refine done_ (done_of HT_.out (by kernel_rfl)) ?_
           obtain ⟨hcz30_0, hcz30_1, hcz30_2, hcz30_3⟩ := cz4 BK348
           obtain ⟨hfz30_0, hfz30_1, hfz30_2, hfz30_3⟩ := fz4 BK348
           try go_wp2_with (first | ((with_reducible refine gate_builtin (b := .append) (xs := #[.tmp 36, .tmp 38]) rfl ?_); at_builtin; refine Kd.R_append k48 (w0 := w) w.heap.size rfl (.tmp 36) (.tmp 38) 27 48 (.agg #[(.int .i64 0), (.int .i64 0), (.int .i64 0), (.bool false)]) 32 rfl Try.underlying27 info48 rfl (by decide) (by omega) (.slice (some ad349) x3_1.length co26) x3_1 (⟨(rd_T48 l0 x9_1).f0, (rd_T48 l0 x9_1).f1, (rd_T48 l0 x9_1).f2, (rd_T48 l0 x9_1).f3⟩ : S48) [.int .i64 ((rd_T48 l0 x9_1).f0), .int .i64 ((rd_T48 l0 x9_1).f1), .int .i64 ((rd_T48 l0 x9_1).f2), .bool ((rd_T48 l0 x9_1).f3)] (fun k_ => k_ ≠ gb348) (fun _ => False) rfl rfl ?aP (fun _ hk => hk.elim) ?aF ?aO ?aB ?aS ?aL ?_; (case aP => exact k48_mkM _ _ _ (⟨(rd_T48 l0 x9_1).f0, (rd_T48 l0 x9_1).f1, (rd_T48 l0 x9_1).f2, (rd_T48 l0 x9_1).f3⟩ : S48)); (case aB => exact (bs2 HB GE346 GE348)); (case aF => exact (fun k_ hk => Kd.freshB (g := gb348) (o := .cells #[.int .i64 ((rd_T48 l0 x9_1).f0), .int .i64 ((rd_T48 l0 x9_1).f1), .int .i64 ((rd_T48 l0 x9_1).f2), .bool ((rd_T48 l0 x9_1).f3)] 48 (0, 0)) (bk BK348) k_ hk)); (case aO => exact (rr HO_3.out)); (case aS => exact (below_size (bs2 HB GE346 GE348))); (case aL => have := LMc22.out; omega); intro v354 w31 ho hb hg hat; rw [← Ny353.out] at ho; replace BK346 := Aside0.mk (blk_grown (g := gb346) (o := .cells #[.slice none 0 0] 29 (0, 0)) (bk BK346) hg (Kd.R_ne HO_3.out BK346.out (by decide))); replace BK348 := Aside0.mk (blk_grown (g := gb348) (o := .cells #[.int .i64 ((rd_T48 l0 x9_1).f0), .int .i64 ((rd_T48 l0 x9_1).f1), .int .i64 ((rd_T48 l0 x9_1).f2), .bool ((rd_T48 l0 x9_1).f3)] 48 (0, 0)) (bk BK348) hg (Kd.R_away HO_3.out (fun _ hk => hk))); replace HB := Aside0.mk (hb); have HO355 := Aside0.mk (ho); clear HO_3; clear ho hb hg hat))
           go_roundg k1
           case measure => have := HK1.out; omega
           case rel => exact ⟨(y353), (wrap64 (x9_1 + 1)), (by first | rfl | (simp; done) | (simp [*]; done)), H', ⟨by have := HK1.out; omega⟩, rm HO355 (fun _ hk => trivial), ⟨bk BK346⟩, ⟨bs2 HB GE346 GE348⟩⟩
          ·
           rw [if_neg c22] at H
           exact absurd H (by simp)
        ·
         rw [if_neg c9] at H
         exact absurd H (by simp)
       ·
        rw [if_neg c8] at H
        exact absurd H (by simp)
      ·
       rw [if_neg c6] at H
       have c6b0 : decide (0 ≤ (wrap64 ((x3_1.length : Int) - 1))) = false := decide_eq_false c6
       clear c6
       by_cases c32 : x3_1.length < 4398046511104
       ·
        rw [if_pos c32] at H
        have LMc32 := Aside0.mk c32
        clear c32
        obtain ⟨y356, hy356⟩ : ∃ y_ : List (S48), y_ = (x3_1 ++ [(⟨(rd_T48 l0 x9_1).f0, (rd_T48 l0 x9_1).f1, (rd_T48 l0 x9_1).f2, (rd_T48 l0 x9_1).f3⟩ : S48)]) := ⟨_, rfl⟩
        replace H : (spec_l9Joined.l0 k1 y356 l0 (l0.length : Int) (wrap64 (x9_1 + 1))) = some r := by first | (rw [hy356]; with_reducible exact H) | (have H2_ := (Option.bind_some _ _).symm.trans H; rw [hy356]; with_reducible exact H2_) | (have H2_ := (Option.bind_some _ _).symm.trans H; with_reducible exact H2_) | with_reducible exact H | (rw [hy356]; exact H) | exact H
        have Ny356 := Aside0.mk hy356
        clear hy356
        have H' := Aside0.mk H
        clear H
        have p347 : 0 ≤ (x9_1 : Int) := of_decide_eq_true (by first | (with_reducible assumption) | assumption)
        have q347 : x9_1 < (l0.length : Int) := of_decide_eq_true (by first | (with_reducible assumption) | assumption)
        obtain ⟨ad347, e347, hx347_0, hx347_1, hx347_2, hx347_3⟩ := at_T48 HR0.out x9_1 p347 q347
        cases e347
        replace hx347_0 := (HB.out.cell (World.block_lt_of_cell? w _ hx347_0)).trans hx347_0
        replace hx347_1 := (HB.out.cell (World.block_lt_of_cell? w _ hx347_1)).trans hx347_1
        replace hx347_2 := (HB.out.cell (World.block_lt_of_cell? w _ hx347_2)).trans hx347_2
        replace hx347_3 := (HB.out.cell (World.block_lt_of_cell? w _ hx347_3)).trans hx347_3
        replace p347 := eq_true p347
        replace q347 := eq_true q347
        try go_wp2_with (first | ((with_reducible refine gate_dst (N := 5) rfl ?_); refine box_event ?hg (N := 5) ?hd (cs := #[.int .i64 0, .int .i64 0, .int .i64 0, .bool false]) (t := 48) ?hr ?_; (case hd => rfl); (case hg => rfl); (case hr => first | (go_simp; done) | (go_simp; rfl)); intro gb348 hg w33 hbox hb; replace HO_3 := Aside0.mk (Kd.R_below (Kd.R_elderB (rr HO_3.out) gb348 (Nat.le_of_eq hg.symm)) hb); have BK348 := Aside0.mk (hbox); have GW348 := Aside0.mk ((by rw [hg]; exact (below_size (bs1 HB GE346)) : w.heap.size ≤ gb348)); have GE348 := Aside0.mk ((by rw [hg]; exact (below_size (bs1 HB GE346)) : w.heap.size ≤ gb348)); replace HB := Aside0.mk (below_step (bs1 HB GE346) hb); have NB346_348 := Aside0.mk ((bn BK346 hg : gb346 ≠ gb348)); have NB348_346 := Aside0.mk ((bm BK346 hg : gb348 ≠ gb346)); replace BK346 := nb BK346 hb; clear hb hbox hg; have hnb34 := NB348_346.out; have hnc34 := NB346_348.out; obtain ⟨hcz35_0, hcz35_1, hcz35_2, hcz35_3⟩ := cz4 BK348; obtain ⟨hfz35_0, hfz35_1, hfz35_2, hfz35_3⟩ := fz4 BK348; obtain ⟨Ao36, co36, eo36⟩ := Kd.R_slice HO_3.out; subst eo36))
        have n0_ : Aside0 (Kd.R k48 48 ((((w33.setCell ⟨gb348, 0, none⟩ (.int .i64 ((rd_T48 l0 x9_1).f0))).setCell ⟨gb348, 1, none⟩ (.int .i64 ((rd_T48 l0 x9_1).f1))).setCell ⟨gb348, 2, none⟩ (.int .i64 ((rd_T48 l0 x9_1).f2))).setCell ⟨gb348, 3, none⟩ (.bool ((rd_T48 l0 x9_1).f3))) w.heap.size (fun k_ => k_ ≠ gb348) (.slice Ao36 x3_1.length co36) x3_1) := ⟨by (with_reducible repeat (first | apply Kd.R_alloc | apply Kd.R_drewN | apply Kd.R_drew)); exact Kd.R_mono (Kd.R_far (p := ⟨gb348, 3, none⟩) (Kd.R_far (p := ⟨gb348, 2, none⟩) (Kd.R_far (p := ⟨gb348, 1, none⟩) (Kd.R_far (p := ⟨gb348, 0, none⟩) (Kd.R_mono HO_3.out (fun k_ hk => (⟨hk, hk.2⟩ : _ ∧ k_ ≠ gb348))) (fun _ hk => hk.2) (.int .i64 ((rd_T48 l0 x9_1).f0))) (fun _ hk => hk.2) (.int .i64 ((rd_T48 l0 x9_1).f1))) (fun _ hk => hk.2) (.int .i64 ((rd_T48 l0 x9_1).f2))) (fun _ hk => hk.2) (.bool ((rd_T48 l0 x9_1).f3))) (fun _ hk => hk.1.2)⟩
        have n1_ : Aside0 (((((w33.setCell ⟨gb348, 0, none⟩ (.int .i64 ((rd_T48 l0 x9_1).f0))).setCell ⟨gb348, 1, none⟩ (.int .i64 ((rd_T48 l0 x9_1).f1))).setCell ⟨gb348, 2, none⟩ (.int .i64 ((rd_T48 l0 x9_1).f2))).setCell ⟨gb348, 3, none⟩ (.bool ((rd_T48 l0 x9_1).f3))).heap[gb346]? = some (.cells #[.slice none 0 0] 29 (0, 0))) := ⟨bf BK346 NB346_348⟩
        have n2_ : Aside0 (((((w33.setCell ⟨gb348, 0, none⟩ (.int .i64 ((rd_T48 l0 x9_1).f0))).setCell ⟨gb348, 1, none⟩ (.int .i64 ((rd_T48 l0 x9_1).f1))).setCell ⟨gb348, 2, none⟩ (.int .i64 ((rd_T48 l0 x9_1).f2))).setCell ⟨gb348, 3, none⟩ (.bool ((rd_T48 l0 x9_1).f3))).heap[gb348]? = some (.cells #[.int .i64 ((rd_T48 l0 x9_1).f0), .int .i64 ((rd_T48 l0 x9_1).f1), .int .i64 ((rd_T48 l0 x9_1).f2), .bool ((rd_T48 l0 x9_1).f3)] 48 (0, 0))) := ⟨by (with_reducible repeat (first | refine blk_drewN ?_ _ | refine blk_drew ?_ | refine blk_alloc ?_ _)); refine blk_put (cs := #[.int .i64 ((rd_T48 l0 x9_1).f0), .int .i64 ((rd_T48 l0 x9_1).f1), .int .i64 ((rd_T48 l0 x9_1).f2), .bool false]) ?_ 3 _ rfl; (with_reducible repeat (first | refine blk_drewN ?_ _ | refine blk_drew ?_ | refine blk_alloc ?_ _)); refine blk_put (cs := #[.int .i64 ((rd_T48 l0 x9_1).f0), .int .i64 ((rd_T48 l0 x9_1).f1), .int .i64 0, .bool false]) ?_ 2 _ rfl; (with_reducible repeat (first | refine blk_drewN ?_ _ | refine blk_drew ?_ | refine blk_alloc ?_ _)); refine blk_put (cs := #[.int .i64 ((rd_T48 l0 x9_1).f0), .int .i64 0, .int .i64 0, .bool false]) ?_ 1 _ rfl; (with_reducible repeat (first | refine blk_drewN ?_ _ | refine blk_drew ?_ | refine blk_alloc ?_ _)); refine blk_put (cs := #[.int .i64 0, .int .i64 0, .int .i64 0, .bool false]) ?_ 0 _ rfl; (with_reducible repeat (first | refine blk_drewN ?_ _ | refine blk_drew ?_ | refine blk_alloc ?_ _)); exact BK348.out⟩
        have n3_ : Aside0 (Below w.heap.size w ((((w33.setCell ⟨gb348, 0, none⟩ (.int .i64 ((rd_T48 l0 x9_1).f0))).setCell ⟨gb348, 1, none⟩ (.int .i64 ((rd_T48 l0 x9_1).f1))).setCell ⟨gb348, 2, none⟩ (.int .i64 ((rd_T48 l0 x9_1).f2))).setCell ⟨gb348, 3, none⟩ (.bool ((rd_T48 l0 x9_1).f3)))) := ⟨bs2 HB GE346 GE348⟩
        (try clear HO_3)
        (try clear BK346)
        (try clear BK348)
        (try clear HB)
        generalize ((((w33.setCell ⟨gb348, 0, none⟩ (.int .i64 ((rd_T48 l0 x9_1).f0))).setCell ⟨gb348, 1, none⟩ (.int .i64 ((rd_T48 l0 x9_1).f1))).setCell ⟨gb348, 2, none⟩ (.int .i64 ((rd_T48 l0 x9_1).f2))).setCell ⟨gb348, 3, none⟩ (.bool ((rd_T48 l0 x9_1).f3))) = w37 at n0_ n1_ n2_ n3_ ⊢
        have HO_3 := n0_
        have BK346 := n1_
        have BK348 := n2_
        have HB := n3_
        clear n0_ n1_ n2_ n3_
        have n0_ := Aside0.mk (Kd.R_drew HO_3.out)
        have n1_ := Aside0.mk (blk_drew BK346.out)
        have n2_ := Aside0.mk (blk_drew BK348.out)
        have n3_ := Aside0.mk (below_drew1 HB.out)
        clear HO_3
        clear BK346
        clear BK348
        clear HB
        have HO_3 := n0_
        have BK346 := n1_
        have BK348 := n2_
        have HB := n3_
        clear n0_ n1_ n2_ n3_
        refine start_ (n := 10) (S := fun w' => True) (ds := []) #[false, false, false, false, false, false, false, false, false, false] (by kernel_rfl) rfl rfl trivial (fun hHeld => ?_); refine with_tabW spec_l9Joined.tab6 spec_l9Joined.bits6 (fun HT_ HW_ => ?_)
        generalize w37.drew = w38 at HO_3 BK346 BK348 HB hHeld ⊢
        refine pure_ (i := 0) (N := some 16) (v := ?_) (a' := ?_) #[true, false, false, false, false, false, false, false, false, false] rfl rfl (any_of HT_.out (by kernel_rfl)) (fun _ _ _ h => h) (Or.inl ⟨by rfl, ?_⟩) ?_ ?_
        rotate_left
        ·
         intro w'
         go_simp
         with_reducible rfl
        rotate_left
        ·
         simp only [Act.put, List.setIfInBounds_toArray, List.set_cons_zero, List.set_cons_succ, i64_w, i32_w]
         rfl
        refine pure_ (i := 1) (N := some 17) (v := ?_) (a' := ?_) #[true, true, false, false, false, false, false, false, false, false] rfl rfl (any_of HT_.out (by kernel_rfl)) (fun _ _ _ h => h) (Or.inl ⟨by rfl, ?_⟩) ?_ ?_
        rotate_left
        ·
         intro w'
         go_simp
         with_reducible rfl
        rotate_left
        ·
         simp only [Act.put, List.setIfInBounds_toArray, List.set_cons_zero, List.set_cons_succ, i64_w, i32_w]
         rfl
        refine pure_ (i := 2) (N := some 18) (v := ?_) (a' := ?_) #[true, true, true, false, false, false, false, false, false, false] rfl rfl (any_of HT_.out (by kernel_rfl)) (fun _ _ _ h => h) (Or.inl ⟨by rfl, ?_⟩) ?_ ?_
        rotate_left
        ·
         intro w'
         go_simp
         with_reducible rfl
        rotate_left
        ·
         simp only [Act.put, List.setIfInBounds_toArray, List.set_cons_zero, List.set_cons_succ, i64_w, i32_w]
         rfl
        refine pure_ (i := 3) (N := some 19) (v := undef) (a' := ?_) #[true, true, true, true, false, false, false, false, false, false] rfl rfl (any_of HT_.out (by kernel_rfl)) (fun _ _ _ h => h) (Or.inr ⟨by rfl, rfl⟩) ?_ ?_
        rotate_left
        ·
         simp only [Act.put, List.setIfInBounds_toArray, List.set_cons_zero, List.set_cons_succ, i64_w, i32_w]
         rfl
        refine pure_ (i := 4) (N := some 20) (v := undef) (a' := ?_) #[true, true, true, true, true, false, false, false, false, false] rfl rfl (any_of HT_.out (by kernel_rfl)) (fun _ _ _ h => h) (Or.inr ⟨by rfl, rfl⟩) ?_ ?_
        rotate_left
        ·
         simp only [Act.put, List.setIfInBounds_toArray, List.set_cons_zero, List.set_cons_succ, i64_w, i32_w]
         rfl
        refine pure_ (i := 5) (N := some 21) (v := undef) (a' := ?_) #[true, true, true, true, true, true, false, false, false, false] rfl rfl (any_of HT_.out (by kernel_rfl)) (fun _ _ _ h => h) (Or.inr ⟨by rfl, rfl⟩) ?_ ?_
        rotate_left
        ·
         simp only [Act.put, List.setIfInBounds_toArray, List.set_cons_zero, List.set_cons_succ, i64_w, i32_w]
         rfl
        refine pure_ (i := 6) (N := some 22) (v := undef) (a' := ?_) #[true, true, true, true, true, true, true, false, false, false] rfl rfl (any_of HT_.out (by kernel_rfl)) (fun _ _ _ h => h) (Or.inr ⟨by rfl, rfl⟩) ?_ ?_
        rotate_left
        ·
         simp only [Act.put, List.setIfInBounds_toArray, List.set_cons_zero, List.set_cons_succ, i64_w, i32_w]
         rfl
        refine pure_ (i := 7) (N := some 23) (v := undef) (a' := ?_) #[true, true, true, true, true, true, true, true, false, false] rfl rfl (any_of HT_.out (by kernel_rfl)) (fun _ _ _ h => h) (Or.inr ⟨by rfl, rfl⟩) ?_ ?_
        rotate_left
        ·
         simp only [Act.put, List.setIfInBounds_toArray, List.set_cons_zero, List.set_cons_succ, i64_w, i32_w]
         rfl
        refine pure_ (i := 8) (N := some 24) (v := undef) (a' := ?_) #[true, true, true, true, true, true, true, true, true, false] rfl rfl (any_of HT_.out (by kernel_rfl)) (fun _ _ _ h => h) (Or.inr ⟨by rfl, rfl⟩) ?_ ?_
        rotate_left
        ·
         simp only [Act.put, List.setIfInBounds_toArray, List.set_cons_zero, List.set_cons_succ, i64_w, i32_w]
         rfl
        refine pure_ (i := 9) (N := some 25) (v := ?_) (a' := ?_) #[true, true, true, true, true, true, true, true, true, true] rfl rfl (any_of HT_.out (by kernel_rfl)) (fun _ _ _ h => h) (Or.inl ⟨by rfl, ?_⟩) ?_ ?_
        rotate_left
        ·
         intro w'
         go_simp
         with_reducible rfl
        rotate_left
        ·
         simp only [Act.put, List.setIfInBounds_toArray, List.set_cons_zero, List.set_cons_succ, i64_w, i32_w]
         rfl
        refine done_ (done_of HT_.out (by kernel_rfl)) ?_
        obtain ⟨hcz39_0, hcz39_1, hcz39_2, hcz39_3⟩ := cz4 BK348
        obtain ⟨hfz39_0, hfz39_1, hfz39_2, hfz39_3⟩ := fz4 BK348
        try go_wp2_with (first | ((with_reducible refine gate_builtin (b := .append) (xs := #[.tmp 36, .tmp 38]) rfl ?_); at_builtin; refine Kd.R_append k48 (w0 := w) w.heap.size rfl (.tmp 36) (.tmp 38) 27 48 (.agg #[(.int .i64 0), (.int .i64 0), (.int .i64 0), (.bool false)]) 32 rfl Try.underlying27 info48 rfl (by decide) (by omega) (.slice Ao36 x3_1.length co36) x3_1 (⟨(rd_T48 l0 x9_1).f0, (rd_T48 l0 x9_1).f1, (rd_T48 l0 x9_1).f2, (rd_T48 l0 x9_1).f3⟩ : S48) [.int .i64 ((rd_T48 l0 x9_1).f0), .int .i64 ((rd_T48 l0 x9_1).f1), .int .i64 ((rd_T48 l0 x9_1).f2), .bool ((rd_T48 l0 x9_1).f3)] (fun k_ => k_ ≠ gb348) (fun _ => False) rfl rfl ?aP (fun _ hk => hk.elim) ?aF ?aO ?aB ?aS ?aL ?_; (case aP => exact k48_mkM _ _ _ (⟨(rd_T48 l0 x9_1).f0, (rd_T48 l0 x9_1).f1, (rd_T48 l0 x9_1).f2, (rd_T48 l0 x9_1).f3⟩ : S48)); (case aB => exact (bs2 HB GE346 GE348)); (case aF => exact (fun k_ hk => Kd.freshB (g := gb348) (o := .cells #[.int .i64 ((rd_T48 l0 x9_1).f0), .int .i64 ((rd_T48 l0 x9_1).f1), .int .i64 ((rd_T48 l0 x9_1).f2), .bool ((rd_T48 l0 x9_1).f3)] 48 (0, 0)) (bk BK348) k_ hk)); (case aO => exact (rr HO_3.out)); (case aS => exact (below_size (bs2 HB GE346 GE348))); (case aL => have := LMc32.out; omega); intro v357 w40 ho hb hg hat; rw [← Ny356.out] at ho; replace BK346 := Aside0.mk (blk_grown (g := gb346) (o := .cells #[.slice none 0 0] 29 (0, 0)) (bk BK346) hg (Kd.R_ne HO_3.out BK346.out (by decide))); replace BK348 := Aside0.mk (blk_grown (g := gb348) (o := .cells #[.int .i64 ((rd_T48 l0 x9_1).f0), .int .i64 ((rd_T48 l0 x9_1).f1), .int .i64 ((rd_T48 l0 x9_1).f2), .bool ((rd_T48 l0 x9_1).f3)] 48 (0, 0)) (bk BK348) hg (Kd.R_away HO_3.out (fun _ hk => hk))); replace HB := Aside0.mk (hb); have HO358 := Aside0.mk (ho); clear HO_3; clear ho hb hg hat))
        go_roundg k1
        case measure => have := HK1.out; omega
        case rel => exact ⟨(y356), (wrap64 (x9_1 + 1)), (by first | rfl | (simp; done) | (simp [*]; done)), H', ⟨by have := HK1.out; omega⟩, rm HO358 (fun _ hk => trivial), ⟨bk BK346⟩, ⟨bs2 HB GE346 GE348⟩⟩
       ·
        rw [if_neg c32] at H
        exact absurd H (by simp)
     ·
      rw [if_neg c5] at H
      exact absurd H (by simp)
    ·
     rw [if_neg c4] at H
     exact absurd H (by simp)
   ·
    rw [if_neg c3] at H
    have c3b0 : decide (x9_1 < (l0.length : Int)) = false := decide_eq_false c3
    clear c3
    obtain rfl := Option.some.inj H
    obtain ⟨Ao41, co41, eo41⟩ := Kd.R_slice HO_3.out
    subst eo41
    have hcz42_0 := cz1 BK346
    have hfz42_0 := fz1 BK346
    go_wp2
    refine bodyPost_ret (results_cell_row rfl _ _ gb346 29 #[.slice Ao41 x3_1.length co41] (0, 0) _ rfl (by (with_reducible repeat (first | refine blk_drewN ?_ _ | refine blk_drew ?_ | refine blk_alloc ?_ _)); refine blk_put (cs := #[.slice none 0 0]) ?_ 0 _ rfl; (with_reducible repeat (first | refine blk_drewN ?_ _ | refine blk_drew ?_ | refine blk_alloc ?_ _)); exact BK346.out) Try.underlying29 rfl (by kernel_rfl)) rfl ?_
    exact ⟨_, by first | rfl | (simp [errW_none, errW_some] <;> rfl) | (simp [*, errW_none, errW_some] <;> rfl), by (with_reducible repeat (first | apply Kd.R_alloc | apply Kd.R_drewN | apply Kd.R_drew)); exact Kd.R_mono (Kd.R_far (p := ⟨gb346, 0, none⟩) (Kd.R_types HO_3.out BK346.out (by decide)) (fun _ hk => hk.2) (.slice Ao41 x3_1.length co41)) (fun _ hk => trivial), bs1 HB GE346⟩

/-! ### spec_l9Put: function 63 -/
def spec_l9Put.l0 : Nat → List (S48) → Int → Int → Int → Int → Bool → Option ((List (S48)))
 | 0, _, _, _, _, _, _ => none
 | k + 1, x0, x5, x360000, x360001, x360002, x360003 => if x5 < (x0.length : Int) then (if 0 ≤ x5 then (if ((rd_T48 x0 x5).f0) < x360000 then (spec_l9Put.l0 k x0 (wrap64 (x5 + 1)) x360000 x360001 x360002 x360003) else (if x5 ≤ (x0.length : Int) then ((some (x0.take (x5 : Int).toNat : List (S48))).bind fun y361 => (if ([] : List (S48)).length + y361.length < 4398046511104 then ((some (([] : List (S48)) ++ y361 : List (S48))).bind fun y365 => (if y365.length < 4398046511104 then ((some (y365 ++ [(⟨x360000, x360001, x360002, x360003⟩ : S48)] : List (S48))).bind fun y368 => ((some (x0.drop (x5 : Int).toNat : List (S48))).bind fun y371 => (if y368.length + y371.length < 4398046511104 then (some (y368 ++ y371)) else (none)))) else (none))) else (none))) else (none))) else (none)) else (if 0 ≤ x5 then (if x5 ≤ (x0.length : Int) then ((some (x0.take (x5 : Int).toNat : List (S48))).bind fun y378 => (if ([] : List (S48)).length + y378.length < 4398046511104 then ((some (([] : List (S48)) ++ y378 : List (S48))).bind fun y382 => (if y382.length < 4398046511104 then ((some (y382 ++ [(⟨x360000, x360001, x360002, x360003⟩ : S48)] : List (S48))).bind fun y385 => ((some (x0.drop (x5 : Int).toNat : List (S48))).bind fun y388 => (if y385.length + y388.length < 4398046511104 then (some (y385 ++ y388)) else (none)))) else (none))) else (none))) else (none)) else (none))
def spec_l9Put.f (k : Nat) (l0 : List (S48)) (a1_0 : Int) (a1_1 : Int) (a1_2 : Int) (a1_3 : Bool) : Option ((List (S48))) := spec_l9Put.l0 k l0 0 a1_0 a1_1 a1_2 a1_3
theorem spec_l9Put.mono_l : ∀ k, (∀ y0 y1 y2 y3 y4 y5, LeO (spec_l9Put.l0 k y0 y1 y2 y3 y4 y5) (spec_l9Put.l0 (k + 1) y0 y1 y2 y3 y4 y5))
 | 0 => fun _ _ _ _ _ _ r h => by simp [spec_l9Put.l0] at h
 | k + 1 => by
  have ih0 := spec_l9Put.mono_l k
  ·
   intro y0 y1 y2 y3 y4 y5
   unfold spec_l9Put.l0
   repeat' first
   | (with_reducible exact ih0 _ _ _ _ _ _)
   | (with_reducible exact LeO.refl _)
   | (with_reducible exact LeO.none _)
   | (with_reducible refine LeO.ite ?_ ?_)
   | (with_reducible refine LeO.bind ?_ (fun _ => ?_))
   | exact ih0 _ _ _ _ _ _
   | exact LeO.none _
   | refine LeO.ite ?_ ?_
   | refine LeO.bind ?_ (fun _ => ?_)
theorem spec_l9Put.mono : ∀ a0 a1 a2 a3 a4 k, LeO (spec_l9Put.f k a0 a1 a2 a3 a4) (spec_l9Put.f (k + 1) a0 a1 a2 a3 a4) := by
 intro a0 a1 a2 a3 a4 k
 have ih0 := spec_l9Put.mono_l k
 unfold spec_l9Put.f
 repeat' first
   | (with_reducible exact ih0 _ _ _ _ _ _)
   | (with_reducible exact LeO.refl _)
   | (with_reducible exact LeO.none _)
   | (with_reducible refine LeO.ite ?_ ?_)
   | (with_reducible refine LeO.bind ?_ (fun _ => ?_))
   | exact ih0 _ _ _ _ _ _
   | exact LeO.none _
   | refine LeO.ite ?_ ?_
   | refine LeO.bind ?_ (fun _ => ?_)
set_option maxHeartbeats 8000000 in
set_option maxRecDepth 100000 in
theorem spec_l9Put.calls (k : Nat) (A0 : Option Addr) (c0 : Nat) (l0 : List (S48)) (a1_0 : Int) (a1_1 : Int) (a1_2 : Int) (a1_3 : Bool) (r : List (S48)) (w : World) (hr0 : Kd.C k48 w A0 l0.length l0) (hc0 : l0.length ≤ c0) (h : spec_l9Put.f k l0 a1_0 a1_1 a1_2 a1_3 = some r) :
  Calls Try.prog 63 #[.slice A0 l0.length c0, .agg #[.int .i64 a1_0, .int .i64 a1_1, .int .i64 a1_2, .bool a1_3]] w fun e w' => ∃ v0_ : Value, e = .returned (v0_) ∧ Kd.R k48 48 w' w.heap.size (fun _ => True) v0_ r ∧ Below w.heap.size w w' := by
 have hu48 := Try.underlying48
 have HR0 := Aside0.mk hr0
 have HC0 := Aside0.mk hc0
 clear hr0 hc0
 have HB := Aside0.mk (Below.refl w.heap.size w)
 have H : (spec_l9Put.l0 k l0 0 a1_0 a1_1 a1_2 a1_3) = some r := h
 clear h
 have H' := Aside0.mk H
 clear H
 go_enter Try.func63, Try.ntmps63
 go_wp2_with (first | ((with_reducible refine gate_dst (N := 3) rfl ?_); refine box_event ?hg (N := 3) ?hd (cs := #[.int .i64 a1_0, .int .i64 a1_1, .int .i64 a1_2, .bool a1_3]) (t := 48) ?hr ?_; (case hd => rfl); (case hg => rfl); (case hr => first | (go_simp; done) | (go_simp; rfl)); intro gb359 hg w3 hbox hb; have BK359 := Aside0.mk (hbox); have GW359 := Aside0.mk ((by rw [hg]; exact (below_size (bs HB)) : w.heap.size ≤ gb359)); have GE359 := Aside0.mk ((by rw [hg]; exact (below_size (bs HB)) : w.heap.size ≤ gb359)); replace HB := Aside0.mk (below_step (bs HB) hb); clear hb hbox hg))
 repeat (go_quiet (first | ((with_reducible refine gate_dst (N := 3) rfl ?_); refine box_event ?hg (N := 3) ?hd (cs := #[.int .i64 a1_0, .int .i64 a1_1, .int .i64 a1_2, .bool a1_3]) (t := 48) ?hr ?_; (case hd => rfl); (case hg => rfl); (case hr => first | (go_simp; done) | (go_simp; rfl)); intro gb359 hg w3 hbox hb; have BK359 := Aside0.mk (hbox); have GW359 := Aside0.mk ((by rw [hg]; exact (below_size (bs HB)) : w.heap.size ≤ gb359)); have GE359 := Aside0.mk ((by rw [hg]; exact (below_size (bs HB)) : w.heap.size ≤ gb359)); replace HB := Aside0.mk (below_step (bs HB) hb); clear hb hbox hg)); try go_wp2_with (first | ((with_reducible refine gate_dst (N := 3) rfl ?_); refine box_event ?hg (N := 3) ?hd (cs := #[.int .i64 a1_0, .int .i64 a1_1, .int .i64 a1_2, .bool a1_3]) (t := 48) ?hr ?_; (case hd => rfl); (case hg => rfl); (case hr => first | (go_simp; done) | (go_simp; rfl)); intro gb359 hg w3 hbox hb; have BK359 := Aside0.mk (hbox); have GW359 := Aside0.mk ((by rw [hg]; exact (below_size (bs HB)) : w.heap.size ≤ gb359)); have GE359 := Aside0.mk ((by rw [hg]; exact (below_size (bs HB)) : w.heap.size ≤ gb359)); replace HB := Aside0.mk (below_step (bs HB) hb); clear hb hbox hg)))
 go_loopg [5] k (fun kq v5 w' => ∃ (x5_1 : Int), v5 = .int .i64 x5_1 ∧ Aside0 (spec_l9Put.l0 kq l0 x5_1 a1_0 a1_1 a1_2 a1_3 = some r) ∧ Aside0 (kq ≤ k) ∧ Aside0 (w'.heap[gb359]? = some (.cells #[.int .i64 a1_0, .int .i64 a1_1, .int .i64 a1_2, .bool a1_3] 48 (0, 0))) ∧ Aside0 (Below w.heap.size w w'))
 case atStart => exact ⟨(0), (by first | rfl | (simp; done) | (simp [*]; done)), H', ⟨Nat.le_refl _⟩, ⟨bk BK359⟩, ⟨bs1 HB GE359⟩⟩
 case round =>
  clear H'
  try clear p2
  obtain ⟨x5_1, rfl, HA, HK1, BK359, HB⟩ := hrel
  cases gk with
  | zero => exact absurd HA.out (by simp [spec_l9Put.l0])
  | succ k1 =>
   have H := HA.out
   clear HA
   simp only [spec_l9Put.l0] at H
   by_cases c4 : x5_1 < (l0.length : Int)
   ·
    rw [if_pos c4] at H
    have c4b0 : decide (x5_1 < (l0.length : Int)) = true := decide_eq_true c4
    clear c4
    by_cases c5 : 0 ≤ x5_1
    ·
     rw [if_pos c5] at H
     have c5b0 : decide (0 ≤ x5_1) = true := decide_eq_true c5
     clear c5
     by_cases c6 : ((rd_T48 l0 x5_1).f0) < a1_0
     ·
      rw [if_pos c6] at H
      have c6b0 : decide (((rd_T48 l0 x5_1).f0) < a1_0) = true := decide_eq_true c6
      clear c6
      have H' := Aside0.mk H
      clear H
      have p360 : 0 ≤ (x5_1 : Int) := of_decide_eq_true (by first | (with_reducible assumption) | assumption)
      have q360 : x5_1 < (l0.length : Int) := of_decide_eq_true (by first | (with_reducible assumption) | assumption)
      obtain ⟨ad360, e360, hx360_0, hx360_1, hx360_2, hx360_3⟩ := at_T48 HR0.out x5_1 p360 q360
      cases e360
      replace hx360_0 := (HB.out.cell (World.block_lt_of_cell? w _ hx360_0)).trans hx360_0
      replace hx360_1 := (HB.out.cell (World.block_lt_of_cell? w _ hx360_1)).trans hx360_1
      replace hx360_2 := (HB.out.cell (World.block_lt_of_cell? w _ hx360_2)).trans hx360_2
      replace hx360_3 := (HB.out.cell (World.block_lt_of_cell? w _ hx360_3)).trans hx360_3
      replace p360 := eq_true p360
      replace q360 := eq_true q360
      obtain ⟨hcz7_0, hcz7_1, hcz7_2, hcz7_3⟩ := cz4 BK359
      obtain ⟨hfz7_0, hfz7_1, hfz7_2, hfz7_3⟩ := fz4 BK359
      go_wp2
      repeat (go_quiet (fail); try go_wp2)
      go_roundg k1
      case measure => have := HK1.out; omega
      case rel => exact ⟨(wrap64 (x5_1 + 1)), (by first | rfl | (simp; done) | (simp [*]; done)), H', ⟨by have := HK1.out; omega⟩, ⟨bk BK359⟩, ⟨bs1 HB GE359⟩⟩
     ·
      rw [if_neg c6] at H
      have c6b0 : decide (((rd_T48 l0 x5_1).f0) < a1_0) = false := decide_eq_false c6
      clear c6
      have c8b0 := eq_true (of_decide_eq_true (by first | (with_reducible assumption) | assumption) : 0 ≤ x5_1)
      by_cases c9 : x5_1 ≤ (l0.length : Int)
      ·
       rw [if_pos c9] at H
       have c9b0 := eq_true c9
       have c9b1 : decide (x5_1 ≤ (l0.length : Int)) = true := decide_eq_true c9
       clear c9
       obtain ⟨y361, hy361⟩ : ∃ y_ : List (S48), y_ = (l0.take (x5_1 : Int).toNat) := ⟨_, rfl⟩
       replace H : (if ([] : List (S48)).length + y361.length < 4398046511104 then ((some (([] : List (S48)) ++ y361 : List (S48))).bind fun y365 => (if y365.length < 4398046511104 then ((some (y365 ++ [(⟨a1_0, a1_1, a1_2, a1_3⟩ : S48)] : List (S48))).bind fun y368 => ((some (l0.drop (x5_1 : Int).toNat : List (S48))).bind fun y371 => (if y368.length + y371.length < 4398046511104 then (some (y368 ++ y371)) else (none)))) else (none))) else (none)) = some r := by first | (rw [hy361]; with_reducible exact H) | (have H2_ := (Option.bind_some _ _).symm.trans H; rw [hy361]; with_reducible exact H2_) | (have H2_ := (Option.bind_some _ _).symm.trans H; with_reducible exact H2_) | with_reducible exact H | (rw [hy361]; exact H) | exact H
       have Ny361 := Aside0.mk hy361
       clear hy361
       by_cases c10 : ([] : List (S48)).length + y361.length < 4398046511104
       ·
        rw [if_pos c10] at H
        have LMc10 := Aside0.mk c10
        clear c10
        obtain ⟨y365, hy365⟩ : ∃ y_ : List (S48), y_ = (([] : List (S48)) ++ y361) := ⟨_, rfl⟩
        replace H : (if y365.length < 4398046511104 then ((some (y365 ++ [(⟨a1_0, a1_1, a1_2, a1_3⟩ : S48)] : List (S48))).bind fun y368 => ((some (l0.drop (x5_1 : Int).toNat : List (S48))).bind fun y371 => (if y368.length + y371.length < 4398046511104 then (some (y368 ++ y371)) else (none)))) else (none)) = some r := by first | (rw [hy365]; with_reducible exact H) | (have H2_ := (Option.bind_some _ _).symm.trans H; rw [hy365]; with_reducible exact H2_) | (have H2_ := (Option.bind_some _ _).symm.trans H; with_reducible exact H2_) | with_reducible exact H | (rw [hy365]; exact H) | exact H
        have Ny365 := Aside0.mk hy365
        clear hy365
        by_cases c11 : y365.length < 4398046511104
        ·
         rw [if_pos c11] at H
         have LMc11 := Aside0.mk c11
         clear c11
         obtain ⟨y368, hy368⟩ : ∃ y_ : List (S48), y_ = (y365 ++ [(⟨a1_0, a1_1, a1_2, a1_3⟩ : S48)]) := ⟨_, rfl⟩
         replace H : ((some (l0.drop (x5_1 : Int).toNat : List (S48))).bind fun y371 => (if y368.length + y371.length < 4398046511104 then (some (y368 ++ y371)) else (none))) = some r := by first | (rw [hy368]; with_reducible exact H) | (have H2_ := (Option.bind_some _ _).symm.trans H; rw [hy368]; with_reducible exact H2_) | (have H2_ := (Option.bind_some _ _).symm.trans H; with_reducible exact H2_) | with_reducible exact H | (rw [hy368]; exact H) | exact H
         have Ny368 := Aside0.mk hy368
         clear hy368
         have c12b0 := eq_true (of_decide_eq_true (by first | (with_reducible assumption) | assumption) : 0 ≤ x5_1)
         have c13b0 := eq_true (of_decide_eq_true (by first | (with_reducible assumption) | assumption) : x5_1 ≤ (l0.length : Int))
         obtain ⟨y371, hy371⟩ : ∃ y_ : List (S48), y_ = (l0.drop (x5_1 : Int).toNat) := ⟨_, rfl⟩
         replace H : (if y368.length + y371.length < 4398046511104 then (some (y368 ++ y371)) else (none)) = some r := by first | (rw [hy371]; with_reducible exact H) | (have H2_ := (Option.bind_some _ _).symm.trans H; rw [hy371]; with_reducible exact H2_) | (have H2_ := (Option.bind_some _ _).symm.trans H; with_reducible exact H2_) | with_reducible exact H | (rw [hy371]; exact H) | exact H
         have Ny371 := Aside0.mk hy371
         clear hy371
         by_cases c14 : y368.length + y371.length < 4398046511104
         ·
          rw [if_pos c14] at H
          have LMc14 := Aside0.mk c14
          clear c14
          obtain ⟨y375, hy375⟩ : ∃ y_ : List (S48), y_ = (y368 ++ y371) := ⟨_, rfl⟩
          replace H : (some y375) = some r := by first | (rw [hy375]; with_reducible exact H) | (have H2_ := (Option.bind_some _ _).symm.trans H; rw [hy375]; with_reducible exact H2_) | (have H2_ := (Option.bind_some _ _).symm.trans H; with_reducible exact H2_) | with_reducible exact H | (rw [hy375]; exact H) | exact H
          have Ny375 := Aside0.mk hy375
          clear hy375
          obtain rfl := Option.some.inj H
          have p360 : 0 ≤ (x5_1 : Int) := of_decide_eq_true (by first | (with_reducible assumption) | assumption)
          have q360 : x5_1 < (l0.length : Int) := of_decide_eq_true (by first | (with_reducible assumption) | assumption)
          obtain ⟨ad360, e360, hx360_0, hx360_1, hx360_2, hx360_3⟩ := at_T48 HR0.out x5_1 p360 q360
          cases e360
          replace hx360_0 := (HB.out.cell (World.block_lt_of_cell? w _ hx360_0)).trans hx360_0
          replace hx360_1 := (HB.out.cell (World.block_lt_of_cell? w _ hx360_1)).trans hx360_1
          replace hx360_2 := (HB.out.cell (World.block_lt_of_cell? w _ hx360_2)).trans hx360_2
          replace hx360_3 := (HB.out.cell (World.block_lt_of_cell? w _ hx360_3)).trans hx360_3
          replace p360 := eq_true p360
          replace q360 := eq_true q360
          obtain ⟨hcz15_0, hcz15_1, hcz15_2, hcz15_3⟩ := cz4 BK359
          obtain ⟨hfz15_0, hfz15_1, hfz15_2, hfz15_3⟩ := fz4 BK359
          have q16 : (x5_1 : Int) ≤ ((l0.length : Int) : Int) := of_decide_eq_true (by first | (with_reducible assumption) | assumption)
          obtain ⟨i016, hi016, _, hsz16, _⟩ := info_parts info48
          have hroom16 : l0.length ≤ c0 := HC0.out
          have hC16 : Kd.C k48 _ (some ad360) l0.length l0 := HR0.out
          have hcut16 := cut_to (P := Try.prog) 27 48 .i64 Try.underlying27 hi016 (some ad360) l0.length c0 x5_1 (of_decide_eq_true (by first | (with_reducible assumption) | assumption)) q16 hroom16
          have hr16 := Kd.C_take (m := (x5_1 : Int).toNat) hC16 (by omega)
          have hy16 : y361.length = (x5_1 : Int).toNat := (by rw [Ny361.out, List.length_take]; omega)
          rw [← Ny361.out] at hr16
          rw [← hy16] at hcut16
          have HR364 := Aside0.mk hr16
          have HC364 := Aside0.mk (show y361.length ≤ c0 from by omega)
          clear hr16 hC16 hroom16 hi016 hsz16
          have KY16 := Aside0.mk hy16
          clear hy16
          replace q16 := eq_true q16
          go_wp2_with (first | ((with_reducible refine gate_builtin (b := .append) (xs := #[.tmp 23, .tmp 26]) rfl ?_); at_builtin; refine Kd.R_append_rows k48 (w0 := w) w.heap.size rfl (.tmp 23) (.tmp 26) 27 48 (.agg #[(.int .i64 0), (.int .i64 0), (.int .i64 0), (.bool false)]) 32 rfl Try.underlying27 info48 rfl (by decide) (by omega) (.slice none 0 0) ([] : List (S48)) y361 _ _ _ (fun k_ => k_ ≠ gb359) (fun _ => False) rfl rfl ?aO ?aR (fun _ _ h => h) (fun _ h => h.elim) ?aF ?aB ?aS ?aL ?_; (case aR => exact cb HR364 HB); (case aB => exact (bs1 HB GE359)); (case aF => exact (fun k_ hk => Kd.freshB (g := gb359) (o := .cells #[.int .i64 a1_0, .int .i64 a1_1, .int .i64 a1_2, .bool a1_3] 48 (0, 0)) (bk BK359) k_ hk)); (case aO => exact ((Kd.R_nil _ _ _ _ (fun k_ => k_ ≠ gb359)))); (case aS => exact (below_size (bs1 HB GE359))); (case aL => have := LMc10.out; omega); intro v366 w17 ho hb hg hat; rw [← Ny365.out] at ho; replace BK359 := Aside0.mk (blk_grown (g := gb359) (o := .cells #[.int .i64 a1_0, .int .i64 a1_1, .int .i64 a1_2, .bool a1_3] 48 (0, 0)) (bk BK359) hg (by simp [Value.ownBlock])); replace HB := Aside0.mk (hb); have HO367 := Aside0.mk (ho); clear ho hb hg hat; obtain ⟨hcz18_0, hcz18_1, hcz18_2, hcz18_3⟩ := cz4 BK359; obtain ⟨hfz18_0, hfz18_1, hfz18_2, hfz18_3⟩ := fz4 BK359) | ((with_reducible refine gate_builtin (b := .append) (xs := #[.tmp 28, .tmp 30]) rfl ?_); at_builtin; refine Kd.R_append k48 (w0 := w) w.heap.size rfl (.tmp 28) (.tmp 30) 27 48 (.agg #[(.int .i64 0), (.int .i64 0), (.int .i64 0), (.bool false)]) 32 rfl Try.underlying27 info48 rfl (by decide) (by omega) v366 y365 (⟨a1_0, a1_1, a1_2, a1_3⟩ : S48) [.int .i64 a1_0, .int .i64 a1_1, .int .i64 a1_2, .bool a1_3] (fun k_ => k_ ≠ gb359) (fun _ => False) rfl rfl ?aP (fun _ hk => hk.elim) ?aF ?aO ?aB ?aS ?aL ?_; (case aP => exact k48_mkM _ _ _ (⟨a1_0, a1_1, a1_2, a1_3⟩ : S48)); (case aB => exact (bs1 HB GE359)); (case aF => exact (fun k_ hk => Kd.freshB (g := gb359) (o := .cells #[.int .i64 a1_0, .int .i64 a1_1, .int .i64 a1_2, .bool a1_3] 48 (0, 0)) (bk BK359) k_ hk)); (case aO => exact (rr HO367.out)); (case aS => exact (below_size (bs1 HB GE359))); (case aL => have := LMc11.out; omega); intro v369 w19 ho hb hg hat; rw [← Ny368.out] at ho; replace BK359 := Aside0.mk (blk_grown (g := gb359) (o := .cells #[.int .i64 a1_0, .int .i64 a1_1, .int .i64 a1_2, .bool a1_3] 48 (0, 0)) (bk BK359) hg (Kd.R_away HO367.out (fun _ hk => hk))); replace HB := Aside0.mk (hb); have HO370 := Aside0.mk (ho); clear HO367; clear ho hb hg hat; have q20 : (x5_1 : Int) ≤ ((l0.length : Int) : Int) := of_decide_eq_true (by first | (with_reducible assumption) | assumption); obtain ⟨i020, hi020, _, hsz20, _⟩ := info_parts info48; have hroom20 : l0.length ≤ c0 := HC0.out; have hC20 : Kd.C k48 _ (some ad360) l0.length l0 := HR0.out; have q020 : (0 : Int) ≤ (x5_1 : Int) := of_decide_eq_true (by first | (with_reducible assumption) | assumption); have hcut20 := cut_from (P := Try.prog) 27 48 .i64 Try.underlying27 hi020 4 hsz20 (some ad360) l0.length c0 x5_1 q020 q20; have hr20 := Kd.C_drop (m := (x5_1 : Int).toNat) (c := c0) hC20 (by omega) hroom20; obtain ⟨A20, hA20⟩ : ∃ A1, A1 = (if c0 = (x5_1 : Int).toNat then (some ad360) else ((some ad360) : Option Addr).map (·.add ((x5_1 : Int).toNat * 4))) := ⟨_, rfl⟩; obtain ⟨c20, hc20⟩ : ∃ c1, c1 = c0 - (x5_1 : Int).toNat := ⟨_, rfl⟩; have hy20 : y371.length = l0.length - (x5_1 : Int).toNat := (by rw [Ny371.out, List.length_drop] <;> omega); rw [show (l0).drop (x5_1 : Int).toNat = y371 from Ny371.out.symm] at hr20; replace hr20 : Kd.C k48 _ A20 y371.length y371 := (by rw [hA20]; exact hr20); rw [← hy20, ← hA20, ← hc20] at hcut20; have HR374 := Aside0.mk hr20; have HC374 := Aside0.mk (show y371.length ≤ c20 from by rw [hy20, hc20]; exact Nat.sub_le_sub_right hroom20 _); clear hr20 hC20 hroom20 hi020 hsz20 hc20; have KY20 := Aside0.mk hy20; have KA20 := Aside0.mk hA20; clear hy20 hA20; replace q20 := eq_true q20) | ((with_reducible refine gate_builtin (b := .append) (xs := #[.tmp 32, .tmp 35]) rfl ?_); at_builtin; refine Kd.R_append_rows k48 (w0 := w) w.heap.size rfl (.tmp 32) (.tmp 35) 27 48 (.agg #[(.int .i64 0), (.int .i64 0), (.int .i64 0), (.bool false)]) 32 rfl Try.underlying27 info48 rfl (by decide) (by omega) v369 y368 y371 _ _ _ (fun k_ => k_ ≠ gb359) (fun _ => False) rfl rfl ?aO ?aR (fun _ _ h => h) (fun _ h => h.elim) ?aF ?aB ?aS ?aL ?_; (case aR => exact cb HR374 HB); (case aB => exact (bs1 HB GE359)); (case aF => exact (fun k_ hk => Kd.freshB (g := gb359) (o := .cells #[.int .i64 a1_0, .int .i64 a1_1, .int .i64 a1_2, .bool a1_3] 48 (0, 0)) (bk BK359) k_ hk)); (case aO => exact (rr HO370.out)); (case aS => exact (below_size (bs1 HB GE359))); (case aL => have := LMc14.out; omega); intro v376 w21 ho hb hg hat; rw [← Ny375.out] at ho; replace BK359 := Aside0.mk (blk_grown (g := gb359) (o := .cells #[.int .i64 a1_0, .int .i64 a1_1, .int .i64 a1_2, .bool a1_3] 48 (0, 0)) (bk BK359) hg (Kd.R_away HO370.out (fun _ hk => hk))); replace HB := Aside0.mk (hb); have HO377 := Aside0.mk (ho); clear HO370; clear ho hb hg hat))
          repeat (go_quiet (first | ((with_reducible refine gate_builtin (b := .append) (xs := #[.tmp 23, .tmp 26]) rfl ?_); at_builtin; refine Kd.R_append_rows k48 (w0 := w) w.heap.size rfl (.tmp 23) (.tmp 26) 27 48 (.agg #[(.int .i64 0), (.int .i64 0), (.int .i64 0), (.bool false)]) 32 rfl Try.underlying27 info48 rfl (by decide) (by omega) (.slice none 0 0) ([] : List (S48)) y361 _ _ _ (fun k_ => k_ ≠ gb359) (fun _ => False) rfl rfl ?aO ?aR (fun _ _ h => h) (fun _ h => h.elim) ?aF ?aB ?aS ?aL ?_; (case aR => exact cb HR364 HB); (case aB => exact (bs1 HB GE359)); (case aF => exact (fun k_ hk => Kd.freshB (g := gb359) (o := .cells #[.int .i64 a1_0, .int .i64 a1_1, .int .i64 a1_2, .bool a1_3] 48 (0, 0)) (bk BK359) k_ hk)); (case aO => exact ((Kd.R_nil _ _ _ _ (fun k_ => k_ ≠ gb359)))); (case aS => exact (below_size (bs1 HB GE359))); (case aL => have := LMc10.out; omega); intro v366 w17 ho hb hg hat; rw [← Ny365.out] at ho; replace BK359 := Aside0.mk (blk_grown (g := gb359) (o := .cells #[.int .i64 a1_0, .int .i64 a1_1, .int .i64 a1_2, .bool a1_3] 48 (0, 0)) (bk BK359) hg (by simp [Value.ownBlock])); replace HB := Aside0.mk (hb); have HO367 := Aside0.mk (ho); clear ho hb hg hat; obtain ⟨hcz18_0, hcz18_1, hcz18_2, hcz18_3⟩ := cz4 BK359; obtain ⟨hfz18_0, hfz18_1, hfz18_2, hfz18_3⟩ := fz4 BK359) | ((with_reducible refine gate_builtin (b := .append) (xs := #[.tmp 28, .tmp 30]) rfl ?_); at_builtin; refine Kd.R_append k48 (w0 := w) w.heap.size rfl (.tmp 28) (.tmp 30) 27 48 (.agg #[(.int .i64 0), (.int .i64 0), (.int .i64 0), (.bool false)]) 32 rfl Try.underlying27 info48 rfl (by decide) (by omega) v366 y365 (⟨a1_0, a1_1, a1_2, a1_3⟩ : S48) [.int .i64 a1_0, .int .i64 a1_1, .int .i64 a1_2, .bool a1_3] (fun k_ => k_ ≠ gb359) (fun _ => False) rfl rfl ?aP (fun _ hk => hk.elim) ?aF ?aO ?aB ?aS ?aL ?_; (case aP => exact k48_mkM _ _ _ (⟨a1_0, a1_1, a1_2, a1_3⟩ : S48)); (case aB => exact (bs1 HB GE359)); (case aF => exact (fun k_ hk => Kd.freshB (g := gb359) (o := .cells #[.int .i64 a1_0, .int .i64 a1_1, .int .i64 a1_2, .bool a1_3] 48 (0, 0)) (bk BK359) k_ hk)); (case aO => exact (rr HO367.out)); (case aS => exact (below_size (bs1 HB GE359))); (case aL => have := LMc11.out; omega); intro v369 w19 ho hb hg hat; rw [← Ny368.out] at ho; replace BK359 := Aside0.mk (blk_grown (g := gb359) (o := .cells #[.int .i64 a1_0, .int .i64 a1_1, .int .i64 a1_2, .bool a1_3] 48 (0, 0)) (bk BK359) hg (Kd.R_away HO367.out (fun _ hk => hk))); replace HB := Aside0.mk (hb); have HO370 := Aside0.mk (ho); clear HO367; clear ho hb hg hat; have q20 : (x5_1 : Int) ≤ ((l0.length : Int) : Int) := of_decide_eq_true (by first | (with_reducible assumption) | assumption); obtain ⟨i020, hi020, _, hsz20, _⟩ := info_parts info48; have hroom20 : l0.length ≤ c0 := HC0.out; have hC20 : Kd.C k48 _ (some ad360) l0.length l0 := HR0.out; have q020 : (0 : Int) ≤ (x5_1 : Int) := of_decide_eq_true (by first | (with_reducible assumption) | assumption); have hcut20 := cut_from (P := Try.prog) 27 48 .i64 Try.underlying27 hi020 4 hsz20 (some ad360) l0.length c0 x5_1 q020 q20; have hr20 := Kd.C_drop (m := (x5_1 : Int).toNat) (c := c0) hC20 (by omega) hroom20; obtain ⟨A20, hA20⟩ : ∃ A1, A1 = (if c0 = (x5_1 : Int).toNat then (some ad360) else ((some ad360) : Option Addr).map (·.add ((x5_1 : Int).toNat * 4))) := ⟨_, rfl⟩; obtain ⟨c20, hc20⟩ : ∃ c1, c1 = c0 - (x5_1 : Int).toNat := ⟨_, rfl⟩; have hy20 : y371.length = l0.length - (x5_1 : Int).toNat := (by rw [Ny371.out, List.length_drop] <;> omega); rw [show (l0).drop (x5_1 : Int).toNat = y371 from Ny371.out.symm] at hr20; replace hr20 : Kd.C k48 _ A20 y371.length y371 := (by rw [hA20]; exact hr20); rw [← hy20, ← hA20, ← hc20] at hcut20; have HR374 := Aside0.mk hr20; have HC374 := Aside0.mk (show y371.length ≤ c20 from by rw [hy20, hc20]; exact Nat.sub_le_sub_right hroom20 _); clear hr20 hC20 hroom20 hi020 hsz20 hc20; have KY20 := Aside0.mk hy20; have KA20 := Aside0.mk hA20; clear hy20 hA20; replace q20 := eq_true q20) | ((with_reducible refine gate_builtin (b := .append) (xs := #[.tmp 32, .tmp 35]) rfl ?_); at_builtin; refine Kd.R_append_rows k48 (w0 := w) w.heap.size rfl (.tmp 32) (.tmp 35) 27 48 (.agg #[(.int .i64 0), (.int .i64 0), (.int .i64 0), (.bool false)]) 32 rfl Try.underlying27 info48 rfl (by decide) (by omega) v369 y368 y371 _ _ _ (fun k_ => k_ ≠ gb359) (fun _ => False) rfl rfl ?aO ?aR (fun _ _ h => h) (fun _ h => h.elim) ?aF ?aB ?aS ?aL ?_; (case aR => exact cb HR374 HB); (case aB => exact (bs1 HB GE359)); (case aF => exact (fun k_ hk => Kd.freshB (g := gb359) (o := .cells #[.int .i64 a1_0, .int .i64 a1_1, .int .i64 a1_2, .bool a1_3] 48 (0, 0)) (bk BK359) k_ hk)); (case aO => exact (rr HO370.out)); (case aS => exact (below_size (bs1 HB GE359))); (case aL => have := LMc14.out; omega); intro v376 w21 ho hb hg hat; rw [← Ny375.out] at ho; replace BK359 := Aside0.mk (blk_grown (g := gb359) (o := .cells #[.int .i64 a1_0, .int .i64 a1_1, .int .i64 a1_2, .bool a1_3] 48 (0, 0)) (bk BK359) hg (Kd.R_away HO370.out (fun _ hk => hk))); replace HB := Aside0.mk (hb); have HO377 := Aside0.mk (ho); clear HO370; clear ho hb hg hat)); try go_wp2_with (first | ((with_reducible refine gate_builtin (b := .append) (xs := #[.tmp 23, .tmp 26]) rfl ?_); at_builtin; refine Kd.R_append_rows k48 (w0 := w) w.heap.size rfl (.tmp 23) (.tmp 26) 27 48 (.agg #[(.int .i64 0), (.int .i64 0), (.int .i64 0), (.bool false)]) 32 rfl Try.underlying27 info48 rfl (by decide) (by omega) (.slice none 0 0) ([] : List (S48)) y361 _ _ _ (fun k_ => k_ ≠ gb359) (fun _ => False) rfl rfl ?aO ?aR (fun _ _ h => h) (fun _ h => h.elim) ?aF ?aB ?aS ?aL ?_; (case aR => exact cb HR364 HB); (case aB => exact (bs1 HB GE359)); (case aF => exact (fun k_ hk => Kd.freshB (g := gb359) (o := .cells #[.int .i64 a1_0, .int .i64 a1_1, .int .i64 a1_2, .bool a1_3] 48 (0, 0)) (bk BK359) k_ hk)); (case aO => exact ((Kd.R_nil _ _ _ _ (fun k_ => k_ ≠ gb359)))); (case aS => exact (below_size (bs1 HB GE359))); (case aL => have := LMc10.out; omega); intro v366 w17 ho hb hg hat; rw [← Ny365.out] at ho; replace BK359 := Aside0.mk (blk_grown (g := gb359) (o := .cells #[.int .i64 a1_0, .int .i64 a1_1, .int .i64 a1_2, .bool a1_3] 48 (0, 0)) (bk BK359) hg (by simp [Value.ownBlock])); replace HB := Aside0.mk (hb); have HO367 := Aside0.mk (ho); clear ho hb hg hat; obtain ⟨hcz18_0, hcz18_1, hcz18_2, hcz18_3⟩ := cz4 BK359; obtain ⟨hfz18_0, hfz18_1, hfz18_2, hfz18_3⟩ := fz4 BK359) | ((with_reducible refine gate_builtin (b := .append) (xs := #[.tmp 28, .tmp 30]) rfl ?_); at_builtin; refine Kd.R_append k48 (w0 := w) w.heap.size rfl (.tmp 28) (.tmp 30) 27 48 (.agg #[(.int .i64 0), (.int .i64 0), (.int .i64 0), (.bool false)]) 32 rfl Try.underlying27 info48 rfl (by decide) (by omega) v366 y365 (⟨a1_0, a1_1, a1_2, a1_3⟩ : S48) [.int .i64 a1_0, .int .i64 a1_1, .int .i64 a1_2, .bool a1_3] (fun k_ => k_ ≠ gb359) (fun _ => False) rfl rfl ?aP (fun _ hk => hk.elim) ?aF ?aO ?aB ?aS ?aL ?_; (case aP => exact k48_mkM _ _ _ (⟨a1_0, a1_1, a1_2, a1_3⟩ : S48)); (case aB => exact (bs1 HB GE359)); (case aF => exact (fun k_ hk => Kd.freshB (g := gb359) (o := .cells #[.int .i64 a1_0, .int .i64 a1_1, .int .i64 a1_2, .bool a1_3] 48 (0, 0)) (bk BK359) k_ hk)); (case aO => exact (rr HO367.out)); (case aS => exact (below_size (bs1 HB GE359))); (case aL => have := LMc11.out; omega); intro v369 w19 ho hb hg hat; rw [← Ny368.out] at ho; replace BK359 := Aside0.mk (blk_grown (g := gb359) (o := .cells #[.int .i64 a1_0, .int .i64 a1_1, .int .i64 a1_2, .bool a1_3] 48 (0, 0)) (bk BK359) hg (Kd.R_away HO367.out (fun _ hk => hk))); replace HB := Aside0.mk (hb); have HO370 := Aside0.mk (ho); clear HO367; clear ho hb hg hat; have q20 : (x5_1 : Int) ≤ ((l0.length : Int) : Int) := of_decide_eq_true (by first | (with_reducible assumption) | assumption); obtain ⟨i020, hi020, _, hsz20, _⟩ := info_parts info48; have hroom20 : l0.length ≤ c0 := HC0.out; have hC20 : Kd.C k48 _ (some ad360) l0.length l0 := HR0.out; have q020 : (0 : Int) ≤ (x5_1 : Int) := of_decide_eq_true (by first | (with_reducible assumption) | assumption); have hcut20 := cut_from (P := Try.prog) 27 48 .i64 Try.underlying27 hi020 4 hsz20 (some ad360) l0.length c0 x5_1 q020 q20; have hr20 := Kd.C_drop (m := (x5_1 : Int).toNat) (c := c0) hC20 (by omega) hroom20; obtain ⟨A20, hA20⟩ : ∃ A1, A1 = (if c0 = (x5_1 : Int).toNat then (some ad360) else ((some ad360) : Option Addr).map (·.add ((x5_1 : Int).toNat * 4))) := ⟨_, rfl⟩; obtain ⟨c20, hc20⟩ : ∃ c1, c1 = c0 - (x5_1 : Int).toNat := ⟨_, rfl⟩; have hy20 : y371.length = l0.length - (x5_1 : Int).toNat := (by rw [Ny371.out, List.length_drop] <;> omega); rw [show (l0).drop (x5_1 : Int).toNat = y371 from Ny371.out.symm] at hr20; replace hr20 : Kd.C k48 _ A20 y371.length y371 := (by rw [hA20]; exact hr20); rw [← hy20, ← hA20, ← hc20] at hcut20; have HR374 := Aside0.mk hr20; have HC374 := Aside0.mk (show y371.length ≤ c20 from by rw [hy20, hc20]; exact Nat.sub_le_sub_right hroom20 _); clear hr20 hC20 hroom20 hi020 hsz20 hc20; have KY20 := Aside0.mk hy20; have KA20 := Aside0.mk hA20; clear hy20 hA20; replace q20 := eq_true q20) | ((with_reducible refine gate_builtin (b := .append) (xs := #[.tmp 32, .tmp 35]) rfl ?_); at_builtin; refine Kd.R_append_rows k48 (w0 := w) w.heap.size rfl (.tmp 32) (.tmp 35) 27 48 (.agg #[(.int .i64 0), (.int .i64 0), (.int .i64 0), (.bool false)]) 32 rfl Try.underlying27 info48 rfl (by decide) (by omega) v369 y368 y371 _ _ _ (fun k_ => k_ ≠ gb359) (fun _ => False) rfl rfl ?aO ?aR (fun _ _ h => h) (fun _ h => h.elim) ?aF ?aB ?aS ?aL ?_; (case aR => exact cb HR374 HB); (case aB => exact (bs1 HB GE359)); (case aF => exact (fun k_ hk => Kd.freshB (g := gb359) (o := .cells #[.int .i64 a1_0, .int .i64 a1_1, .int .i64 a1_2, .bool a1_3] 48 (0, 0)) (bk BK359) k_ hk)); (case aO => exact (rr HO370.out)); (case aS => exact (below_size (bs1 HB GE359))); (case aL => have := LMc14.out; omega); intro v376 w21 ho hb hg hat; rw [← Ny375.out] at ho; replace BK359 := Aside0.mk (blk_grown (g := gb359) (o := .cells #[.int .i64 a1_0, .int .i64 a1_1, .int .i64 a1_2, .bool a1_3] 48 (0, 0)) (bk BK359) hg (Kd.R_away HO370.out (fun _ hk => hk))); replace HB := Aside0.mk (hb); have HO377 := Aside0.mk (ho); clear HO370; clear ho hb hg hat)))
          go_ret
          exact ⟨_, by first | rfl | (simp [errW_none, errW_some] <;> rfl) | (simp [*, errW_none, errW_some] <;> rfl), by (with_reducible repeat (first | apply Kd.R_alloc | apply Kd.R_drewN | apply Kd.R_drew)); exact Kd.R_mono HO377.out (fun _ hk => trivial), bs1 HB GE359⟩
         ·
          rw [if_neg c14] at H
          exact absurd H (by simp)
        ·
         rw [if_neg c11] at H
         exact absurd H (by simp)
       ·
        rw [if_neg c10] at H
        exact absurd H (by simp)
      ·
       rw [if_neg c9] at H
       exact absurd H (by simp)
    ·
     rw [if_neg c5] at H
     exact absurd H (by simp)
   ·
    rw [if_neg c4] at H
    have c4b0 : decide (x5_1 < (l0.length : Int)) = false := decide_eq_false c4
    clear c4
    by_cases c22 : 0 ≤ x5_1
    ·
     rw [if_pos c22] at H
     have c22b0 := eq_true c22
     have c22b1 : decide (0 ≤ x5_1) = true := decide_eq_true c22
     clear c22
     by_cases c23 : x5_1 ≤ (l0.length : Int)
     ·
      rw [if_pos c23] at H
      have c23b0 := eq_true c23
      have c23b1 : decide (x5_1 ≤ (l0.length : Int)) = true := decide_eq_true c23
      clear c23
      obtain ⟨y378, hy378⟩ : ∃ y_ : List (S48), y_ = (l0.take (x5_1 : Int).toNat) := ⟨_, rfl⟩
      replace H : (if ([] : List (S48)).length + y378.length < 4398046511104 then ((some (([] : List (S48)) ++ y378 : List (S48))).bind fun y382 => (if y382.length < 4398046511104 then ((some (y382 ++ [(⟨a1_0, a1_1, a1_2, a1_3⟩ : S48)] : List (S48))).bind fun y385 => ((some (l0.drop (x5_1 : Int).toNat : List (S48))).bind fun y388 => (if y385.length + y388.length < 4398046511104 then (some (y385 ++ y388)) else (none)))) else (none))) else (none)) = some r := by first | (rw [hy378]; with_reducible exact H) | (have H2_ := (Option.bind_some _ _).symm.trans H; rw [hy378]; with_reducible exact H2_) | (have H2_ := (Option.bind_some _ _).symm.trans H; with_reducible exact H2_) | with_reducible exact H | (rw [hy378]; exact H) | exact H
      have Ny378 := Aside0.mk hy378
      clear hy378
      by_cases c24 : ([] : List (S48)).length + y378.length < 4398046511104
      ·
       rw [if_pos c24] at H
       have LMc24 := Aside0.mk c24
       clear c24
       obtain ⟨y382, hy382⟩ : ∃ y_ : List (S48), y_ = (([] : List (S48)) ++ y378) := ⟨_, rfl⟩
       replace H : (if y382.length < 4398046511104 then ((some (y382 ++ [(⟨a1_0, a1_1, a1_2, a1_3⟩ : S48)] : List (S48))).bind fun y385 => ((some (l0.drop (x5_1 : Int).toNat : List (S48))).bind fun y388 => (if y385.length + y388.length < 4398046511104 then (some (y385 ++ y388)) else (none)))) else (none)) = some r := by first | (rw [hy382]; with_reducible exact H) | (have H2_ := (Option.bind_some _ _).symm.trans H; rw [hy382]; with_reducible exact H2_) | (have H2_ := (Option.bind_some _ _).symm.trans H; with_reducible exact H2_) | with_reducible exact H | (rw [hy382]; exact H) | exact H
       have Ny382 := Aside0.mk hy382
       clear hy382
       by_cases c25 : y382.length < 4398046511104
       ·
        rw [if_pos c25] at H
        have LMc25 := Aside0.mk c25
        clear c25
        obtain ⟨y385, hy385⟩ : ∃ y_ : List (S48), y_ = (y382 ++ [(⟨a1_0, a1_1, a1_2, a1_3⟩ : S48)]) := ⟨_, rfl⟩
        replace H : ((some (l0.drop (x5_1 : Int).toNat : List (S48))).bind fun y388 => (if y385.length + y388.length < 4398046511104 then (some (y385 ++ y388)) else (none))) = some r := by first | (rw [hy385]; with_reducible exact H) | (have H2_ := (Option.bind_some _ _).symm.trans H; rw [hy385]; with_reducible exact H2_) | (have H2_ := (Option.bind_some _ _).symm.trans H; with_reducible exact H2_) | with_reducible exact H | (rw [hy385]; exact H) | exact H
        have Ny385 := Aside0.mk hy385
        clear hy385
        have c26b0 := eq_true (of_decide_eq_true (by first | (with_reducible assumption) | assumption) : 0 ≤ x5_1)
        have c27b0 := eq_true (of_decide_eq_true (by first | (with_reducible assumption) | assumption) : x5_1 ≤ (l0.length : Int))
        obtain ⟨y388, hy388⟩ : ∃ y_ : List (S48), y_ = (l0.drop (x5_1 : Int).toNat) := ⟨_, rfl⟩
        replace H : (if y385.length + y388.length < 4398046511104 then (some (y385 ++ y388)) else (none)) = some r := by first | (rw [hy388]; with_reducible exact H) | (have H2_ := (Option.bind_some _ _).symm.trans H; rw [hy388]; with_reducible exact H2_) | (have H2_ := (Option.bind_some _ _).symm.trans H; with_reducible exact H2_) | with_reducible exact H | (rw [hy388]; exact H) | exact H
        have Ny388 := Aside0.mk hy388
        clear hy388
        by_cases c28 : y385.length + y388.length < 4398046511104
        ·
         rw [if_pos c28] at H
         have LMc28 := Aside0.mk c28
         clear c28
         obtain ⟨y392, hy392⟩ : ∃ y_ : List (S48), y_ = (y385 ++ y388) := ⟨_, rfl⟩
         replace H : (some y392) = some r := by first | (rw [hy392]; with_reducible exact H) | (have H2_ := (Option.bind_some _ _).symm.trans H; rw [hy392]; with_reducible exact H2_) | (have H2_ := (Option.bind_some _ _).symm.trans H; with_reducible exact H2_) | with_reducible exact H | (rw [hy392]; exact H) | exact H
         have Ny392 := Aside0.mk hy392
         clear hy392
         obtain rfl := Option.some.inj H
         have q29 : (x5_1 : Int) ≤ ((l0.length : Int) : Int) := of_decide_eq_true (by first | (with_reducible assumption) | assumption)
         obtain ⟨i029, hi029, _, hsz29, _⟩ := info_parts info48
         have hroom29 : l0.length ≤ c0 := HC0.out
         have hC29 : Kd.C k48 _ A0 l0.length l0 := HR0.out
         have hcut29 := cut_to (P := Try.prog) 27 48 .i64 Try.underlying27 hi029 A0 l0.length c0 x5_1 (of_decide_eq_true (by first | (with_reducible assumption) | assumption)) q29 hroom29
         have hr29 := Kd.C_take (m := (x5_1 : Int).toNat) hC29 (by omega)
         have hy29 : y378.length = (x5_1 : Int).toNat := (by rw [Ny378.out, List.length_take]; omega)
         rw [← Ny378.out] at hr29
         rw [← hy29] at hcut29
         have HR381 := Aside0.mk hr29
         have HC381 := Aside0.mk (show y378.length ≤ c0 from by omega)
         clear hr29 hC29 hroom29 hi029 hsz29
         have KY29 := Aside0.mk hy29
         clear hy29
         replace q29 := eq_true q29
         go_wp2_with (first | ((with_reducible refine gate_builtin (b := .append) (xs := #[.tmp 23, .tmp 26]) rfl ?_); at_builtin; refine Kd.R_append_rows k48 (w0 := w) w.heap.size rfl (.tmp 23) (.tmp 26) 27 48 (.agg #[(.int .i64 0), (.int .i64 0), (.int .i64 0), (.bool false)]) 32 rfl Try.underlying27 info48 rfl (by decide) (by omega) (.slice none 0 0) ([] : List (S48)) y378 _ _ _ (fun k_ => k_ ≠ gb359) (fun _ => False) rfl rfl ?aO ?aR (fun _ _ h => h) (fun _ h => h.elim) ?aF ?aB ?aS ?aL ?_; (case aR => exact cb HR381 HB); (case aB => exact (bs1 HB GE359)); (case aF => exact (fun k_ hk => Kd.freshB (g := gb359) (o := .cells #[.int .i64 a1_0, .int .i64 a1_1, .int .i64 a1_2, .bool a1_3] 48 (0, 0)) (bk BK359) k_ hk)); (case aO => exact ((Kd.R_nil _ _ _ _ (fun k_ => k_ ≠ gb359)))); (case aS => exact (below_size (bs1 HB GE359))); (case aL => have := LMc24.out; omega); intro v383 w30 ho hb hg hat; rw [← Ny382.out] at ho; replace BK359 := Aside0.mk (blk_grown (g := gb359) (o := .cells #[.int .i64 a1_0, .int .i64 a1_1, .int .i64 a1_2, .bool a1_3] 48 (0, 0)) (bk BK359) hg (by simp [Value.ownBlock])); replace HB := Aside0.mk (hb); have HO384 := Aside0.mk (ho); clear ho hb hg hat; obtain ⟨hcz31_0, hcz31_1, hcz31_2, hcz31_3⟩ := cz4 BK359; obtain ⟨hfz31_0, hfz31_1, hfz31_2, hfz31_3⟩ := fz4 BK359) | ((with_reducible refine gate_builtin (b := .append) (xs := #[.tmp 28, .tmp 30]) rfl ?_); at_builtin; refine Kd.R_append k48 (w0 := w) w.heap.size rfl (.tmp 28) (.tmp 30) 27 48 (.agg #[(.int .i64 0), (.int .i64 0), (.int .i64 0), (.bool false)]) 32 rfl Try.underlying27 info48 rfl (by decide) (by omega) v383 y382 (⟨a1_0, a1_1, a1_2, a1_3⟩ : S48) [.int .i64 a1_0, .int .i64 a1_1, .int .i64 a1_2, .bool a1_3] (fun k_ => k_ ≠ gb359) (fun _ => False) rfl rfl ?aP (fun _ hk => hk.elim) ?aF ?aO ?aB ?aS ?aL ?_; (case aP => exact k48_mkM _ _ _ (⟨a1_0, a1_1, a1_2, a1_3⟩ : S48)); (case aB => exact (bs1 HB GE359)); (case aF => exact (fun k_ hk => Kd.freshB (g := gb359) (o := .cells #[.int .i64 a1_0, .int .i64 a1_1, .int .i64 a1_2, .bool a1_3] 48 (0, 0)) (bk BK359) k_ hk)); (case aO => exact (rr HO384.out)); (case aS => exact (below_size (bs1 HB GE359))); (case aL => have := LMc25.out; omega); intro v386 w32 ho hb hg hat; rw [← Ny385.out] at ho; replace BK359 := Aside0.mk (blk_grown (g := gb359) (o := .cells #[.int .i64 a1_0, .int .i64 a1_1, .int .i64 a1_2, .bool a1_3] 48 (0, 0)) (bk BK359) hg (Kd.R_away HO384.out (fun _ hk => hk))); replace HB := Aside0.mk (hb); have HO387 := Aside0.mk (ho); clear HO384; clear ho hb hg hat; have q33 : (x5_1 : Int) ≤ ((l0.length : Int) : Int) := of_decide_eq_true (by first | (with_reducible assumption) | assumption); obtain ⟨i033, hi033, _, hsz33, _⟩ := info_parts info48; have hroom33 : l0.length ≤ c0 := HC0.out; have hC33 : Kd.C k48 _ A0 l0.length l0 := HR0.out; have q033 : (0 : Int) ≤ (x5_1 : Int) := of_decide_eq_true (by first | (with_reducible assumption) | assumption); have hcut33 := cut_from (P := Try.prog) 27 48 .i64 Try.underlying27 hi033 4 hsz33 A0 l0.length c0 x5_1 q033 q33; have hr33 := Kd.C_drop (m := (x5_1 : Int).toNat) (c := c0) hC33 (by omega) hroom33; obtain ⟨A33, hA33⟩ : ∃ A1, A1 = (if c0 = (x5_1 : Int).toNat then A0 else (A0 : Option Addr).map (·.add ((x5_1 : Int).toNat * 4))) := ⟨_, rfl⟩; obtain ⟨c33, hc33⟩ : ∃ c1, c1 = c0 - (x5_1 : Int).toNat := ⟨_, rfl⟩; have hy33 : y388.length = l0.length - (x5_1 : Int).toNat := (by rw [Ny388.out, List.length_drop] <;> omega); rw [show (l0).drop (x5_1 : Int).toNat = y388 from Ny388.out.symm] at hr33; replace hr33 : Kd.C k48 _ A33 y388.length y388 := (by rw [hA33]; exact hr33); rw [← hy33, ← hA33, ← hc33] at hcut33; have HR391 := Aside0.mk hr33; have HC391 := Aside0.mk (show y388.length ≤ c33 from by rw [hy33, hc33]; exact Nat.sub_le_sub_right hroom33 _); clear hr33 hC33 hroom33 hi033 hsz33 hc33; have KY33 := Aside0.mk hy33; have KA33 := Aside0.mk hA33; clear hy33 hA33; replace q33 := eq_true q33) | ((with_reducible refine gate_builtin (b := .append) (xs := #[.tmp 32, .tmp 35]) rfl ?_); at_builtin; refine Kd.R_append_rows k48 (w0 := w) w.heap.size rfl (.tmp 32) (.tmp 35) 27 48 (.agg #[(.int .i64 0), (.int .i64 0), (.int .i64 0), (.bool false)]) 32 rfl Try.underlying27 info48 rfl (by decide) (by omega) v386 y385 y388 _ _ _ (fun k_ => k_ ≠ gb359) (fun _ => False) rfl rfl ?aO ?aR (fun _ _ h => h) (fun _ h => h.elim) ?aF ?aB ?aS ?aL ?_; (case aR => exact cb HR391 HB); (case aB => exact (bs1 HB GE359)); (case aF => exact (fun k_ hk => Kd.freshB (g := gb359) (o := .cells #[.int .i64 a1_0, .int .i64 a1_1, .int .i64 a1_2, .bool a1_3] 48 (0, 0)) (bk BK359) k_ hk)); (case aO => exact (rr HO387.out)); (case aS => exact (below_size (bs1 HB GE359))); (case aL => have := LMc28.out; omega); intro v393 w34 ho hb hg hat; rw [← Ny392.out] at ho; replace BK359 := Aside0.mk (blk_grown (g := gb359) (o := .cells #[.int .i64 a1_0, .int .i64 a1_1, .int .i64 a1_2, .bool a1_3] 48 (0, 0)) (bk BK359) hg (Kd.R_away HO387.out (fun _ hk => hk))); replace HB := Aside0.mk (hb); have HO394 := Aside0.mk (ho); clear HO387; clear ho hb hg hat))
         repeat (go_quiet (first | ((with_reducible refine gate_builtin (b := .append) (xs := #[.tmp 23, .tmp 26]) rfl ?_); at_builtin; refine Kd.R_append_rows k48 (w0 := w) w.heap.size rfl (.tmp 23) (.tmp 26) 27 48 (.agg #[(.int .i64 0), (.int .i64 0), (.int .i64 0), (.bool false)]) 32 rfl Try.underlying27 info48 rfl (by decide) (by omega) (.slice none 0 0) ([] : List (S48)) y378 _ _ _ (fun k_ => k_ ≠ gb359) (fun _ => False) rfl rfl ?aO ?aR (fun _ _ h => h) (fun _ h => h.elim) ?aF ?aB ?aS ?aL ?_; (case aR => exact cb HR381 HB); (case aB => exact (bs1 HB GE359)); (case aF => exact (fun k_ hk => Kd.freshB (g := gb359) (o := .cells #[.int .i64 a1_0, .int .i64 a1_1, .int .i64 a1_2, .bool a1_3] 48 (0, 0)) (bk BK359) k_ hk)); (case aO => exact ((Kd.R_nil _ _ _ _ (fun k_ => k_ ≠ gb359)))); (case aS => exact (below_size (bs1 HB GE359))); (case aL => have := LMc24.out; omega); intro v383 w30 ho hb hg hat; rw [← Ny382.out] at ho; replace BK359 := Aside0.mk (blk_grown (g := gb359) (o := .cells #[.int .i64 a1_0, .int .i64 a1_1, .int .i64 a1_2, .bool a1_3] 48 (0, 0)) (bk BK359) hg (by simp [Value.ownBlock])); replace HB := Aside0.mk (hb); have HO384 := Aside0.mk (ho); clear ho hb hg hat; obtain ⟨hcz31_0, hcz31_1, hcz31_2, hcz31_3⟩ := cz4 BK359; obtain ⟨hfz31_0, hfz31_1, hfz31_2, hfz31_3⟩ := fz4 BK359) | ((with_reducible refine gate_builtin (b := .append) (xs := #[.tmp 28, .tmp 30]) rfl ?_); at_builtin; refine Kd.R_append k48 (w0 := w) w.heap.size rfl (.tmp 28) (.tmp 30) 27 48 (.agg #[(.int .i64 0), (.int .i64 0), (.int .i64 0), (.bool false)]) 32 rfl Try.underlying27 info48 rfl (by decide) (by omega) v383 y382 (⟨a1_0, a1_1, a1_2, a1_3⟩ : S48) [.int .i64 a1_0, .int .i64 a1_1, .int .i64 a1_2, .bool a1_3] (fun k_ => k_ ≠ gb359) (fun _ => False) rfl rfl ?aP (fun _ hk => hk.elim) ?aF ?aO ?aB ?aS ?aL ?_; (case aP => exact k48_mkM _ _ _ (⟨a1_0, a1_1, a1_2, a1_3⟩ : S48)); (case aB => exact (bs1 HB GE359)); (case aF => exact (fun k_ hk => Kd.freshB (g := gb359) (o := .cells #[.int .i64 a1_0, .int .i64 a1_1, .int .i64 a1_2, .bool a1_3] 48 (0, 0)) (bk BK359) k_ hk)); (case aO => exact (rr HO384.out)); (case aS => exact (below_size (bs1 HB GE359))); (case aL => have := LMc25.out; omega); intro v386 w32 ho hb hg hat; rw [← Ny385.out] at ho; replace BK359 := Aside0.mk (blk_grown (g := gb359) (o := .cells #[.int .i64 a1_0, .int .i64 a1_1, .int .i64 a1_2, .bool a1_3] 48 (0, 0)) (bk BK359) hg (Kd.R_away HO384.out (fun _ hk => hk))); replace HB := Aside0.mk (hb); have HO387 := Aside0.mk (ho); clear HO384; clear ho hb hg hat; have q33 : (x5_1 : Int) ≤ ((l0.length : Int) : Int) := of_decide_eq_true (by first | (with_reducible assumption) | assumption); obtain ⟨i033, hi033, _, hsz33, _⟩ := info_parts info48; have hroom33 : l0.length ≤ c0 := HC0.out; have hC33 : Kd.C k48 _ A0 l0.length l0 := HR0.out; have q033 : (0 : Int) ≤ (x5_1 : Int) := of_decide_eq_true (by first | (with_reducible assumption) | assumption); have hcut33 := cut_from (P := Try.prog) 27 48 .i64 Try.underlying27 hi033 4 hsz33 A0 l0.length c0 x5_1 q033 q33; have hr33 := Kd.C_drop (m := (x5_1 : Int).toNat) (c := c0) hC33 (by omega) hroom33; obtain ⟨A33, hA33⟩ : ∃ A1, A1 = (if c0 = (x5_1 : Int).toNat then A0 else (A0 : Option Addr).map (·.add ((x5_1 : Int).toNat * 4))) := ⟨_, rfl⟩; obtain ⟨c33, hc33⟩ : ∃ c1, c1 = c0 - (x5_1 : Int).toNat := ⟨_, rfl⟩; have hy33 : y388.length = l0.length - (x5_1 : Int).toNat := (by rw [Ny388.out, List.length_drop] <;> omega); rw [show (l0).drop (x5_1 : Int).toNat = y388 from Ny388.out.symm] at hr33; replace hr33 : Kd.C k48 _ A33 y388.length y388 := (by rw [hA33]; exact hr33); rw [← hy33, ← hA33, ← hc33] at hcut33; have HR391 := Aside0.mk hr33; have HC391 := Aside0.mk (show y388.length ≤ c33 from by rw [hy33, hc33]; exact Nat.sub_le_sub_right hroom33 _); clear hr33 hC33 hroom33 hi033 hsz33 hc33; have KY33 := Aside0.mk hy33; have KA33 := Aside0.mk hA33; clear hy33 hA33; replace q33 := eq_true q33) | ((with_reducible refine gate_builtin (b := .append) (xs := #[.tmp 32, .tmp 35]) rfl ?_); at_builtin; refine Kd.R_append_rows k48 (w0 := w) w.heap.size rfl (.tmp 32) (.tmp 35) 27 48 (.agg #[(.int .i64 0), (.int .i64 0), (.int .i64 0), (.bool false)]) 32 rfl Try.underlying27 info48 rfl (by decide) (by omega) v386 y385 y388 _ _ _ (fun k_ => k_ ≠ gb359) (fun _ => False) rfl rfl ?aO ?aR (fun _ _ h => h) (fun _ h => h.elim) ?aF ?aB ?aS ?aL ?_; (case aR => exact cb HR391 HB); (case aB => exact (bs1 HB GE359)); (case aF => exact (fun k_ hk => Kd.freshB (g := gb359) (o := .cells #[.int .i64 a1_0, .int .i64 a1_1, .int .i64 a1_2, .bool a1_3] 48 (0, 0)) (bk BK359) k_ hk)); (case aO => exact (rr HO387.out)); (case aS => exact (below_size (bs1 HB GE359))); (case aL => have := LMc28.out; omega); intro v393 w34 ho hb hg hat; rw [← Ny392.out] at ho; replace BK359 := Aside0.mk (blk_grown (g := gb359) (o := .cells #[.int .i64 a1_0, .int .i64 a1_1, .int .i64 a1_2, .bool a1_3] 48 (0, 0)) (bk BK359) hg (Kd.R_away HO387.out (fun _ hk => hk))); replace HB := Aside0.mk (hb); have HO394 := Aside0.mk (ho); clear HO387; clear ho hb hg hat)); try go_wp2_with (first | ((with_reducible refine gate_builtin (b := .append) (xs := #[.tmp 23, .tmp 26]) rfl ?_); at_builtin; refine Kd.R_append_rows k48 (w0 := w) w.heap.size rfl (.tmp 23) (.tmp 26) 27 48 (.agg #[(.int .i64 0), (.int .i64 0), (.int .i64 0), (.bool false)]) 32 rfl Try.underlying27 info48 rfl (by decide) (by omega) (.slice none 0 0) ([] : List (S48)) y378 _ _ _ (fun k_ => k_ ≠ gb359) (fun _ => False) rfl rfl ?aO ?aR (fun _ _ h => h) (fun _ h => h.elim) ?aF ?aB ?aS ?aL ?_; (case aR => exact cb HR381 HB); (case aB => exact (bs1 HB GE359)); (case aF => exact (fun k_ hk => Kd.freshB (g := gb359) (o := .cells #[.int .i64 a1_0, .int .i64 a1_1, .int .i64 a1_2, .bool a1_3] 48 (0, 0)) (bk BK359) k_ hk)); (case aO => exact ((Kd.R_nil _ _ _ _ (fun k_ => k_ ≠ gb359)))); (case aS => exact (below_size (bs1 HB GE359))); (case aL => have := LMc24.out; omega); intro v383 w30 ho hb hg hat; rw [← Ny382.out] at ho; replace BK359 := Aside0.mk (blk_grown (g := gb359) (o := .cells #[.int .i64 a1_0, .int .i64 a1_1, .int .i64 a1_2, .bool a1_3] 48 (0, 0)) (bk BK359) hg (by simp [Value.ownBlock])); replace HB := Aside0.mk (hb); have HO384 := Aside0.mk (ho); clear ho hb hg hat; obtain ⟨hcz31_0, hcz31_1, hcz31_2, hcz31_3⟩ := cz4 BK359; obtain ⟨hfz31_0, hfz31_1, hfz31_2, hfz31_3⟩ := fz4 BK359) | ((with_reducible refine gate_builtin (b := .append) (xs := #[.tmp 28, .tmp 30]) rfl ?_); at_builtin; refine Kd.R_append k48 (w0 := w) w.heap.size rfl (.tmp 28) (.tmp 30) 27 48 (.agg #[(.int .i64 0), (.int .i64 0), (.int .i64 0), (.bool false)]) 32 rfl Try.underlying27 info48 rfl (by decide) (by omega) v383 y382 (⟨a1_0, a1_1, a1_2, a1_3⟩ : S48) [.int .i64 a1_0, .int .i64 a1_1, .int .i64 a1_2, .bool a1_3] (fun k_ => k_ ≠ gb359) (fun _ => False) rfl rfl ?aP (fun _ hk => hk.elim) ?aF ?aO ?aB ?aS ?aL ?_; (case aP => exact k48_mkM _ _ _ (⟨a1_0, a1_1, a1_2, a1_3⟩ : S48)); (case aB => exact (bs1 HB GE359)); (case aF => exact (fun k_ hk => Kd.freshB (g := gb359) (o := .cells #[.int .i64 a1_0, .int .i64 a1_1, .int .i64 a1_2, .bool a1_3] 48 (0, 0)) (bk BK359) k_ hk)); (case aO => exact (rr HO384.out)); (case aS => exact (below_size (bs1 HB GE359))); (case aL => have := LMc25.out; omega); intro v386 w32 ho hb hg hat; rw [← Ny385.out] at ho; replace BK359 := Aside0.mk (blk_grown (g := gb359) (o := .cells #[.int .i64 a1_0, .int .i64 a1_1, .int .i64 a1_2, .bool a1_3] 48 (0, 0)) (bk BK359) hg (Kd.R_away HO384.out (fun _ hk => hk))); replace HB := Aside0.mk (hb); have HO387 := Aside0.mk (ho); clear HO384; clear ho hb hg hat; have q33 : (x5_1 : Int) ≤ ((l0.length : Int) : Int) := of_decide_eq_true (by first | (with_reducible assumption) | assumption); obtain ⟨i033, hi033, _, hsz33, _⟩ := info_parts info48; have hroom33 : l0.length ≤ c0 := HC0.out; have hC33 : Kd.C k48 _ A0 l0.length l0 := HR0.out; have q033 : (0 : Int) ≤ (x5_1 : Int) := of_decide_eq_true (by first | (with_reducible assumption) | assumption); have hcut33 := cut_from (P := Try.prog) 27 48 .i64 Try.underlying27 hi033 4 hsz33 A0 l0.length c0 x5_1 q033 q33; have hr33 := Kd.C_drop (m := (x5_1 : Int).toNat) (c := c0) hC33 (by omega) hroom33; obtain ⟨A33, hA33⟩ : ∃ A1, A1 = (if c0 = (x5_1 : Int).toNat then A0 else (A0 : Option Addr).map (·.add ((x5_1 : Int).toNat * 4))) := ⟨_, rfl⟩; obtain ⟨c33, hc33⟩ : ∃ c1, c1 = c0 - (x5_1 : Int).toNat := ⟨_, rfl⟩; have hy33 : y388.length = l0.length - (x5_1 : Int).toNat := (by rw [Ny388.out, List.length_drop] <;> omega); rw [show (l0).drop (x5_1 : Int).toNat = y388 from Ny388.out.symm] at hr33; replace hr33 : Kd.C k48 _ A33 y388.length y388 := (by rw [hA33]; exact hr33); rw [← hy33, ← hA33, ← hc33] at hcut33; have HR391 := Aside0.mk hr33; have HC391 := Aside0.mk (show y388.length ≤ c33 from by rw [hy33, hc33]; exact Nat.sub_le_sub_right hroom33 _); clear hr33 hC33 hroom33 hi033 hsz33 hc33; have KY33 := Aside0.mk hy33; have KA33 := Aside0.mk hA33; clear hy33 hA33; replace q33 := eq_true q33) | ((with_reducible refine gate_builtin (b := .append) (xs := #[.tmp 32, .tmp 35]) rfl ?_); at_builtin; refine Kd.R_append_rows k48 (w0 := w) w.heap.size rfl (.tmp 32) (.tmp 35) 27 48 (.agg #[(.int .i64 0), (.int .i64 0), (.int .i64 0), (.bool false)]) 32 rfl Try.underlying27 info48 rfl (by decide) (by omega) v386 y385 y388 _ _ _ (fun k_ => k_ ≠ gb359) (fun _ => False) rfl rfl ?aO ?aR (fun _ _ h => h) (fun _ h => h.elim) ?aF ?aB ?aS ?aL ?_; (case aR => exact cb HR391 HB); (case aB => exact (bs1 HB GE359)); (case aF => exact (fun k_ hk => Kd.freshB (g := gb359) (o := .cells #[.int .i64 a1_0, .int .i64 a1_1, .int .i64 a1_2, .bool a1_3] 48 (0, 0)) (bk BK359) k_ hk)); (case aO => exact (rr HO387.out)); (case aS => exact (below_size (bs1 HB GE359))); (case aL => have := LMc28.out; omega); intro v393 w34 ho hb hg hat; rw [← Ny392.out] at ho; replace BK359 := Aside0.mk (blk_grown (g := gb359) (o := .cells #[.int .i64 a1_0, .int .i64 a1_1, .int .i64 a1_2, .bool a1_3] 48 (0, 0)) (bk BK359) hg (Kd.R_away HO387.out (fun _ hk => hk))); replace HB := Aside0.mk (hb); have HO394 := Aside0.mk (ho); clear HO387; clear ho hb hg hat)))
         go_ret
         exact ⟨_, by first | rfl | (simp [errW_none, errW_some] <;> rfl) | (simp [*, errW_none, errW_some] <;> rfl), by (with_reducible repeat (first | apply Kd.R_alloc | apply Kd.R_drewN | apply Kd.R_drew)); exact Kd.R_mono HO394.out (fun _ hk => trivial), bs1 HB GE359⟩
        ·
         rw [if_neg c28] at H
         exact absurd H (by simp)
       ·
        rw [if_neg c25] at H
        exact absurd H (by simp)
      ·
       rw [if_neg c24] at H
       exact absurd H (by simp)
     ·
      rw [if_neg c23] at H
      exact absurd H (by simp)
    ·
     rw [if_neg c22] at H
     exact absurd H (by simp)

end Go.Proofs.Ytojdlcbmbpgplaa.G
