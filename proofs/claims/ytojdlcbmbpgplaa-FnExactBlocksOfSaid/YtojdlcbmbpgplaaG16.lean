-- Printed by a program of this session (drive.py, by way of the kit's print). Not trusted: Lean checks it.
import Derived.Test.YtojdlcbmbpgplaaG0
namespace Go.Proofs.Ytojdlcbmbpgplaa.G
open Go.RowKit Go.Proofs.YtojdlcbmbpgplaaW.PrintWords Go.Proofs.YtojdlcbmbpgplaaW.PrintLast Go.Proofs.YtojdlcbmbpgplaaW.PrintMore
attribute [local go_sem] max2_int min2_int max_two min_two max_three min_three max_four min_four   -- for this text's walks alone
set_option linter.unusedVariables false
set_option linter.unusedSimpArgs false

/-! ### impl_blocksIn_1: function 77 -/
def impl_blocksIn_1.f (a0 : Int) (l1_0 : List Bool) : Option (Bool) := if 0 ≤ a0 then (if a0 < (l1_0.length : Int) then (some (rdOf false l1_0 a0)) else (none)) else (none)
set_option maxHeartbeats 8000000 in
set_option maxRecDepth 100000 in
theorem impl_blocksIn_1.calls (a0 : Int) (gx1_0 : Nat) (A1_0 : Option Addr) (c1_0 : Nat) (l1_0 : List Bool) (r : Bool) (w : World) (hr1_0 : Kd.C Kd.bool w A1_0 l1_0.length l1_0) (hc1_0 : l1_0.length ≤ c1_0) (hx1_0 : w.heap[gx1_0]? = some (.cells #[.slice A1_0 l1_0.length c1_0] 72 (0, 0))) (h : impl_blocksIn_1.f a0 l1_0 = some r) :
  Calls Try.prog 77 #[.int .i64 a0, .pointer (some ⟨gx1_0, 0, none⟩)] w fun e w' => e = .returned (.bool r) ∧ Drawn0 w w' := by
 have HR1_0 := Aside0.mk hr1_0
 have HC1_0 := Aside0.mk hc1_0
 clear hr1_0 hc1_0
 have BK554 := Aside0.mk hx1_0
 clear hx1_0
 have H : (if 0 ≤ a0 then (if a0 < (l1_0.length : Int) then (some (rdOf false l1_0 a0)) else (none)) else (none)) = some r := h
 clear h
 by_cases c3 : 0 ≤ a0
 ·
  rw [if_pos c3] at H
  have c3b0 : decide (0 ≤ a0) = true := decide_eq_true c3
  clear c3
  by_cases c4 : a0 < (l1_0.length : Int)
  ·
   rw [if_pos c4] at H
   have c4b0 : decide (a0 < (l1_0.length : Int)) = true := decide_eq_true c4
   clear c4
   obtain rfl := Option.some.inj H
   have hcz5_0 : w.cell? ⟨gx1_0, 0, none⟩ = some (.slice A1_0 l1_0.length c1_0) := (blk_cell BK554.out 0).trans rfl
   have hfz5_0 := blk_frozen BK554.out 0
   have p555 : 0 ≤ (a0 : Int) := of_decide_eq_true (by first | (with_reducible assumption) | assumption)
   have q555 : a0 < (l1_0.length : Int) := of_decide_eq_true (by first | (with_reducible assumption) | assumption)
   obtain ⟨ad555, e555, hx555_0⟩ := Kd.at_bool HR1_0.out a0 p555 q555
   cases e555
   replace p555 := eq_true p555
   replace q555 := eq_true q555
   go_enter Try.func77, Try.ntmps77
   go_wp2
   go_ret
   exact ⟨by first | rfl | (simp; done) | (simp [*]; done), by repeat (first | exact Drawn0.refl _ | apply Drawn0.step)⟩
  ·
   rw [if_neg c4] at H
   exact absurd H (by simp)
 ·
  rw [if_neg c3] at H
  exact absurd H (by simp)

/-! ### impl_merged_at_impl_blocksIn_1: function 58 -/
def impl_merged_at_impl_blocksIn_1.l0 : Nat → List (S61) → Int → Int → List Bool → Option ((List (S61)))
 | 0, _, _, _, _ => none
 | k + 1, x5, x9, x10, x557000 => if x10 < x9 then ((impl_blocksIn_1.f x10 x557000).bind fun t560 => (if t560 = true then (if (wrap64 ((x5.length : Int) - 1)) ≥ 0 then (if 0 ≤ (wrap64 ((x5.length : Int) - 1)) then (if (wrap64 ((x5.length : Int) - 1)) < (x5.length : Int) then (if (wrap64 (((rd_T61 x5 (wrap64 ((x5.length : Int) - 1))).f0) + ((rd_T61 x5 (wrap64 ((x5.length : Int) - 1))).f1))) = x10 then (impl_merged_at_impl_blocksIn_1.l0 k (x5.set ((wrap64 ((x5.length : Int) - 1)) : Int).toNat (⟨(rd_T61 x5 (wrap64 ((x5.length : Int) - 1))).f0, wrap64 (((rd_T61 x5 (wrap64 ((x5.length : Int) - 1))).f1) + 1)⟩ : S61)) x9 (wrap64 (x10 + 1)) x557000) else (if x5.length < 8796093022208 then (impl_merged_at_impl_blocksIn_1.l0 k (x5 ++ [(⟨x10, 1⟩ : S61)]) x9 (wrap64 (x10 + 1)) x557000) else (none))) else (none)) else (none)) else (if x5.length < 8796093022208 then (impl_merged_at_impl_blocksIn_1.l0 k (x5 ++ [(⟨x10, 1⟩ : S61)]) x9 (wrap64 (x10 + 1)) x557000) else (none))) else (impl_merged_at_impl_blocksIn_1.l0 k x5 x9 (wrap64 (x10 + 1)) x557000))) else (some x5)
def impl_merged_at_impl_blocksIn_1.f (k : Nat) (a0 : Int) (l1_0 : List Bool) : Option ((List (S61))) := impl_merged_at_impl_blocksIn_1.l0 k (([] : List (S61))) a0 0 l1_0
theorem impl_merged_at_impl_blocksIn_1.mono_l : ∀ k, (∀ y0 y1 y2 y3, LeO (impl_merged_at_impl_blocksIn_1.l0 k y0 y1 y2 y3) (impl_merged_at_impl_blocksIn_1.l0 (k + 1) y0 y1 y2 y3))
 | 0 => fun _ _ _ _ r h => by simp [impl_merged_at_impl_blocksIn_1.l0] at h
 | k + 1 => by
  have ih0 := impl_merged_at_impl_blocksIn_1.mono_l k
  ·
   intro y0 y1 y2 y3
   unfold impl_merged_at_impl_blocksIn_1.l0
   repeat' first
   | (with_reducible exact ih0 _ _ _ _)
   | (with_reducible exact LeO.refl _)
   | (with_reducible exact LeO.none _)
   | (with_reducible refine LeO.ite ?_ ?_)
   | (with_reducible refine LeO.bind ?_ (fun _ => ?_))
   | exact ih0 _ _ _ _
   | exact LeO.none _
   | refine LeO.ite ?_ ?_
   | refine LeO.bind ?_ (fun _ => ?_)
theorem impl_merged_at_impl_blocksIn_1.mono : ∀ a0 a1 k, LeO (impl_merged_at_impl_blocksIn_1.f k a0 a1) (impl_merged_at_impl_blocksIn_1.f (k + 1) a0 a1) := by
 intro a0 a1 k
 have ih0 := impl_merged_at_impl_blocksIn_1.mono_l k
 unfold impl_merged_at_impl_blocksIn_1.f
 repeat' first
   | (with_reducible exact ih0 _ _ _ _)
   | (with_reducible exact LeO.refl _)
   | (with_reducible exact LeO.none _)
   | (with_reducible refine LeO.ite ?_ ?_)
   | (with_reducible refine LeO.bind ?_ (fun _ => ?_))
   | exact ih0 _ _ _ _
   | exact LeO.none _
   | refine LeO.ite ?_ ?_
   | refine LeO.bind ?_ (fun _ => ?_)
set_option maxHeartbeats 8000000 in
set_option maxRecDepth 100000 in
theorem impl_merged_at_impl_blocksIn_1.calls (k : Nat) (a0 : Int) (gx1_0 : Nat) (A1_0 : Option Addr) (c1_0 : Nat) (l1_0 : List Bool) (r : List (S61)) (w : World) (hr1_0 : Kd.C Kd.bool w A1_0 l1_0.length l1_0) (hc1_0 : l1_0.length ≤ c1_0) (hx1_0 : w.heap[gx1_0]? = some (.cells #[.slice A1_0 l1_0.length c1_0] 72 (0, 0))) (h : impl_merged_at_impl_blocksIn_1.f k a0 l1_0 = some r) :
  Calls Try.prog 58 #[.int .i64 a0, .func (.func 77) #[] #[.pointer (some ⟨gx1_0, 0, none⟩)]] w fun e w' => ∃ v0_ : Value, e = .returned (v0_) ∧ Kd.R k61 61 w' w.heap.size (fun _ => True) v0_ r ∧ Below w.heap.size w w' := by
 have hu61 := Try.underlying61
 have eg77 := fun (args : Array Value) (w : World) => enters_ (P := Try.prog) Try.func77 (by kernel_rfl) rfl args w
 have HR1_0 := Aside0.mk hr1_0
 have HC1_0 := Aside0.mk hc1_0
 clear hr1_0 hc1_0
 have BK556 := Aside0.mk hx1_0
 clear hx1_0
 have HB := Aside0.mk (Below.refl w.heap.size w)
 have H : (impl_merged_at_impl_blocksIn_1.l0 k (([] : List (S61))) a0 0 l1_0) = some r := h
 clear h
 obtain ⟨y557, hy557⟩ : ∃ y_ : List (S61), y_ = (([] : List (S61))) := ⟨_, rfl⟩
 replace H : (impl_merged_at_impl_blocksIn_1.l0 k y557 a0 0 l1_0) = some r := by first | (rw [hy557]; with_reducible exact H) | (have H2_ := (Option.bind_some _ _).symm.trans H; rw [hy557]; with_reducible exact H2_) | (have H2_ := (Option.bind_some _ _).symm.trans H; with_reducible exact H2_) | with_reducible exact H | (rw [hy557]; exact H) | exact H
 have Ny557 := Aside0.mk hy557
 clear hy557
 have H' := Aside0.mk H
 clear H
 go_enter Try.func58, Try.ntmps58
 go_wp2_with (first | ((with_reducible refine gate_dst (N := 8) rfl ?_); refine Kd.R_lit k61 _ 61 ?hg (N := 8) ?hd (xs := ([] : List (S61))) (inner := []) (ok := fun _ => True) (okp := fun _ => True) ?hr ?hp (fun _ hk => hk) trivial (Below.refl _ _) (Nat.le_refl _) (by simp) ?_; (case hd => rfl); (case hg => rfl); (case hr => first | (go_simp; done) | (go_simp; rfl)); (case hp => exact (Reps.none _ _)); intro v558 w3 ho4 hb hg_ hnew_; clear hg_ hnew_; (first | rw [← Ny557.out] at ho4 | (simp only [Int.reduceToNat] at ho4; rw [← Ny557.out] at ho4)); have n0_ := Aside0.mk (Kd.R_lower ho4 (below_size (bs HB))); have n1_ := Aside0.mk (blk_below (g := gx1_0) (o := .cells #[.slice A1_0 l1_0.length c1_0] 72 (0, 0)) (bk BK556) hb); have n2_ := Aside0.mk (below_step (bs HB) hb); clear BK556; clear HB; have HO559 := n0_; have BK556 := n1_; have HB := n2_; clear n0_ n1_ n2_; clear hb ho4))
 repeat (go_quiet (first | ((with_reducible refine gate_dst (N := 8) rfl ?_); refine Kd.R_lit k61 _ 61 ?hg (N := 8) ?hd (xs := ([] : List (S61))) (inner := []) (ok := fun _ => True) (okp := fun _ => True) ?hr ?hp (fun _ hk => hk) trivial (Below.refl _ _) (Nat.le_refl _) (by simp) ?_; (case hd => rfl); (case hg => rfl); (case hr => first | (go_simp; done) | (go_simp; rfl)); (case hp => exact (Reps.none _ _)); intro v558 w3 ho4 hb hg_ hnew_; clear hg_ hnew_; (first | rw [← Ny557.out] at ho4 | (simp only [Int.reduceToNat] at ho4; rw [← Ny557.out] at ho4)); have n0_ := Aside0.mk (Kd.R_lower ho4 (below_size (bs HB))); have n1_ := Aside0.mk (blk_below (g := gx1_0) (o := .cells #[.slice A1_0 l1_0.length c1_0] 72 (0, 0)) (bk BK556) hb); have n2_ := Aside0.mk (below_step (bs HB) hb); clear BK556; clear HB; have HO559 := n0_; have BK556 := n1_; have HB := n2_; clear n0_ n1_ n2_; clear hb ho4)); try go_wp2_with (first | ((with_reducible refine gate_dst (N := 8) rfl ?_); refine Kd.R_lit k61 _ 61 ?hg (N := 8) ?hd (xs := ([] : List (S61))) (inner := []) (ok := fun _ => True) (okp := fun _ => True) ?hr ?hp (fun _ hk => hk) trivial (Below.refl _ _) (Nat.le_refl _) (by simp) ?_; (case hd => rfl); (case hg => rfl); (case hr => first | (go_simp; done) | (go_simp; rfl)); (case hp => exact (Reps.none _ _)); intro v558 w3 ho4 hb hg_ hnew_; clear hg_ hnew_; (first | rw [← Ny557.out] at ho4 | (simp only [Int.reduceToNat] at ho4; rw [← Ny557.out] at ho4)); have n0_ := Aside0.mk (Kd.R_lower ho4 (below_size (bs HB))); have n1_ := Aside0.mk (blk_below (g := gx1_0) (o := .cells #[.slice A1_0 l1_0.length c1_0] 72 (0, 0)) (bk BK556) hb); have n2_ := Aside0.mk (below_step (bs HB) hb); clear BK556; clear HB; have HO559 := n0_; have BK556 := n1_; have HB := n2_; clear n0_ n1_ n2_; clear hb ho4)))
 go_loopg [5, 10] k (fun kq v5 v10 w' => ∃ (x5_1 : List (S61)) (x10_1 : Int), v10 = .int .i64 x10_1 ∧ Aside0 (impl_merged_at_impl_blocksIn_1.l0 kq x5_1 a0 x10_1 l1_0 = some r) ∧ Aside0 (kq ≤ k) ∧ Aside0 (Kd.R k61 61 w' w.heap.size (fun _ => True) v5 x5_1) ∧ Aside0 (w'.heap[gx1_0]? = some (.cells #[(.slice A1_0 l1_0.length c1_0)] 72 (0, 0))) ∧ Aside0 (Below w.heap.size w w'))
 case atStart => exact ⟨(y557), (0), (by first | rfl | (simp; done) | (simp [*]; done)), H', ⟨Nat.le_refl _⟩, ⟨rr HO559.out⟩, ⟨bk BK556⟩, ⟨bs HB⟩⟩
 case round =>
  clear H'
  try clear c1
  try clear hx1
  try clear p2
  try clear hx1_0
  obtain ⟨x5_1, x10_1, rfl, HA, HK1, HO_5, BK556, HB⟩ := hrel
  cases gk with
  | zero => exact absurd HA.out (by simp [impl_merged_at_impl_blocksIn_1.l0])
  | succ k1 =>
   have H := HA.out
   clear HA
   simp only [impl_merged_at_impl_blocksIn_1.l0] at H
   by_cases c5 : x10_1 < a0
   ·
    rw [if_pos c5] at H
    have c5b0 : decide (x10_1 < a0) = true := decide_eq_true c5
    clear c5
    replace H := Option.bind_eq_some_iff.mp H
    obtain ⟨t560, A60, H⟩ := H
    replace H : (if t560 = true then (if (wrap64 ((x5_1.length : Int) - 1)) ≥ 0 then (if 0 ≤ (wrap64 ((x5_1.length : Int) - 1)) then (if (wrap64 ((x5_1.length : Int) - 1)) < (x5_1.length : Int) then (if (wrap64 (((rd_T61 x5_1 (wrap64 ((x5_1.length : Int) - 1))).f0) + ((rd_T61 x5_1 (wrap64 ((x5_1.length : Int) - 1))).f1))) = x10_1 then (impl_merged_at_impl_blocksIn_1.l0 k1 (x5_1.set ((wrap64 ((x5_1.length : Int) - 1)) : Int).toNat (⟨(rd_T61 x5_1 (wrap64 ((x5_1.length : Int) - 1))).f0, wrap64 (((rd_T61 x5_1 (wrap64 ((x5_1.length : Int) - 1))).f1) + 1)⟩ : S61)) a0 (wrap64 (x10_1 + 1)) l1_0) else (if x5_1.length < 8796093022208 then (impl_merged_at_impl_blocksIn_1.l0 k1 (x5_1 ++ [(⟨x10_1, 1⟩ : S61)]) a0 (wrap64 (x10_1 + 1)) l1_0) else (none))) else (none)) else (none)) else (if x5_1.length < 8796093022208 then (impl_merged_at_impl_blocksIn_1.l0 k1 (x5_1 ++ [(⟨x10_1, 1⟩ : S61)]) a0 (wrap64 (x10_1 + 1)) l1_0) else (none))) else (impl_merged_at_impl_blocksIn_1.l0 k1 x5_1 a0 (wrap64 (x10_1 + 1)) l1_0)) = some r := H
    have A6 := Aside0.mk A60
    clear A60
    by_cases c7 : t560 = true
    ·
     subst c7
     rw [if_pos rfl] at H
     by_cases c8 : (wrap64 ((x5_1.length : Int) - 1)) ≥ 0
     ·
      rw [if_pos c8] at H
      have c8b0 : decide (0 ≤ (wrap64 ((x5_1.length : Int) - 1))) = true := decide_eq_true c8
      clear c8
      obtain ⟨ji9, hji9⟩ : ∃ j_ : Int, (wrap64 ((x5_1.length : Int) - 1)) = j_ := ⟨_, rfl⟩
      replace H : (if 0 ≤ (ji9) then (if (ji9) < (x5_1.length : Int) then (if (wrap64 (((rd_T61 x5_1 (ji9)).f0) + ((rd_T61 x5_1 (ji9)).f1))) = x10_1 then (impl_merged_at_impl_blocksIn_1.l0 k1 (x5_1.set ((ji9) : Int).toNat (⟨(rd_T61 x5_1 (ji9)).f0, wrap64 (((rd_T61 x5_1 (ji9)).f1) + 1)⟩ : S61)) a0 (wrap64 (x10_1 + 1)) l1_0) else (if x5_1.length < 8796093022208 then (impl_merged_at_impl_blocksIn_1.l0 k1 (x5_1 ++ [(⟨x10_1, 1⟩ : S61)]) a0 (wrap64 (x10_1 + 1)) l1_0) else (none))) else (none)) else (none)) = some r := by first | (rw [hji9] at H; exact H) | (simp only [hji9] at H ⊢; exact H)
      (try rw [hji9] at c8b0)
      (try rw [hji9] at A6)
      have hji9w : (IntKind.i64.wrap ((x5_1.length : Int) - 1)) = ji9 := (i64_w _).trans hji9
      by_cases c10 : 0 ≤ (ji9)
      ·
       rw [if_pos c10] at H
       have c10b0 : decide (0 ≤ (ji9)) = true := decide_eq_true c10
       clear c10
       by_cases c11 : (ji9) < (x5_1.length : Int)
       ·
        rw [if_pos c11] at H
        have c11b0 : decide ((ji9) < (x5_1.length : Int)) = true := decide_eq_true c11
        clear c11
        by_cases c12 : (wrap64 (((rd_T61 x5_1 (ji9)).f0) + ((rd_T61 x5_1 (ji9)).f1))) = x10_1
        ·
         rw [if_pos c12] at H
         have c12b0 : ((wrap64 (((rd_T61 x5_1 (ji9)).f0) + ((rd_T61 x5_1 (ji9)).f1))) == x10_1) = true := beq_iff_eq.mpr c12
         have c12b1 : ((wrap64 (((rd_T61 x5_1 (ji9)).f0) + ((rd_T61 x5_1 (ji9)).f1))) != x10_1) = false := bne_eq_false_iff_eq.mpr c12
         clear c12
         obtain ⟨y564, hy564⟩ : ∃ y_ : List (S61), y_ = (x5_1.set ((ji9) : Int).toNat (⟨(rd_T61 x5_1 (ji9)).f0, wrap64 (((rd_T61 x5_1 (ji9)).f1) + 1)⟩ : S61)) := ⟨_, rfl⟩
         replace H : (impl_merged_at_impl_blocksIn_1.l0 k1 y564 a0 (wrap64 (x10_1 + 1)) l1_0) = some r := by first | (rw [hy564]; with_reducible exact H) | (have H2_ := (Option.bind_some _ _).symm.trans H; rw [hy564]; with_reducible exact H2_) | (have H2_ := (Option.bind_some _ _).symm.trans H; with_reducible exact H2_) | with_reducible exact H | (rw [hy564]; exact H) | exact H
         have Ny564 := Aside0.mk hy564
         clear hy564
         have H' := Aside0.mk H
         clear H
         go_wp2_with (first | (go_at_call 77; (with_reducible refine (impl_blocksIn_1.calls x10_1 gx1_0 A1_0 c1_0 l1_0 true _ ?side1 ?side2 ?side3 A6.out).mono ?_); (case side1 => exact cb HR1_0 HB); (case side2 => exact HC1_0.out); (case side3 => (with_reducible repeat (first | refine blk_drewN ?_ _ | refine blk_drew ?_ | refine blk_alloc ?_ _)); exact BK556.out); rintro e w' ⟨rfl, ⟨nd, rfl⟩⟩; (try first | exact ⟨rfl, _, World.drewN_drewN _ _ _⟩ | exact ⟨rfl, _, Eq.trans (World.drewN_drewN _ _ _) (congrArg (World.drewN _) (Nat.add_assoc _ _ _))⟩); obtain ⟨Ao14, co14, eo14⟩ := Kd.R_slice HO_5.out; subst eo14; have p561 : 0 ≤ ((ji9) : Int) := of_decide_eq_true (by first | (with_reducible assumption) | assumption); have q561 : (ji9) < (x5_1.length : Int) := of_decide_eq_true (by first | (with_reducible assumption) | assumption); obtain ⟨ad561, e561, hx561_0, hx561_1⟩ := at_T61 (Kd.R_reads' HO_5.out).2.2 (ji9) p561 q561; cases e561; replace p561 := eq_true p561; replace q561 := eq_true q561; have p562 : 0 ≤ ((ji9) : Int) := of_decide_eq_true (by first | (with_reducible assumption) | assumption); have q562 : (ji9) < (x5_1.length : Int) := of_decide_eq_true (by first | (with_reducible assumption) | assumption); obtain ⟨ad562, e562, hx562_0, hx562_1⟩ := at_T61 (Kd.R_reads' HO_5.out).2.2 (ji9) p562 q562; obtain rfl : ad561 = ad562 := (by injection e562); replace p562 := eq_true p562; replace q562 := eq_true q562; have p563 : 0 ≤ ((ji9) : Int) := of_decide_eq_true (by first | (with_reducible assumption) | assumption); have q563 : (ji9) < (x5_1.length : Int) := of_decide_eq_true (by first | (with_reducible assumption) | assumption); obtain ⟨ad563, e563, hx563_0, hx563_1⟩ := at_T61 (Kd.R_reads' HO_5.out).2.2 (ji9) p563 q563; obtain rfl : ad561 = ad563 := (by injection e563); replace p563 := eq_true p563; replace q563 := eq_true q563; have p13 : 0 ≤ ((ji9) : Int) := of_decide_eq_true (by first | (with_reducible assumption) | assumption); have q13 : ((ji9) : Int) < ((x5_1.length : Int) : Int) := of_decide_eq_true (by first | (with_reducible assumption) | assumption); obtain ⟨go13, co13, eo13, gb13, gl13, cl13, HG13⟩ := Kd.R_form HO_5.out (by omega); (first | cases eo13 | (injection eo13 with ea_ en_ ec_; (first | subst ea_ | (injection ea_ with ea_; subst ea_)); subst ec_; clear en_)); have GB13 := Aside0.mk gb13; have GG13 := Aside0.mk HG13; clear gb13 gl13 HG13; (first | simp only [add_plain] at hx561_0 | skip); (first | simp only [add_plain] at hx561_1 | skip); (first | simp only [add_plain] at hx562_0 | skip); (first | simp only [add_plain] at hx562_1 | skip); (first | simp only [add_plain] at hx563_0 | skip); (first | simp only [add_plain] at hx563_1 | skip); obtain ⟨ce13, hcl13, hM13, hcc13, hfr13⟩ := Kd.R_elem HO_5.out z61 ((ji9) : Int) p13 q13; obtain rfl := k61_openM hM13; have hx13_0 : wr.cell? ⟨go13, ((ji9) : Int).toNat * 2, none⟩ = some (.int .i64 ((rd_T61 x5_1 (ji9)).f0)) := hcc13 0 _ rfl; have hx13_1 : wr.cell? ⟨go13, ((ji9) : Int).toNat * 2 + 1, none⟩ = some (.int .i64 ((rd_T61 x5_1 (ji9)).f1)) := hcc13 1 _ rfl; have hf13_0 : wr.frozen? ⟨go13, ((ji9) : Int).toNat * 2, none⟩ = false := hfr13 0; have hf13_1 : wr.frozen? ⟨go13, ((ji9) : Int).toNat * 2 + 1, none⟩ = false := hfr13 1; clear hcl13 hcc13 hfr13 hM13; replace p13 := eq_true p13; replace q13 := eq_true q13; have HX15 := Aside0.mk (show Kd.R k61 61 wr w.heap.size (fun _ => True) (.slice (some ⟨go13, 0, none⟩) x5_1.length co14) x5_1 from (rr HO_5.out)); obtain ⟨ce15, hcl15, hM15, hcc15, hfr15⟩ := Kd.R_elem HX15.out z61 ((ji9) : Int) (of_decide_eq_true (by first | (with_reducible assumption) | assumption)) (by have h_ : ((ji9) : Int) < ((x5_1.length : Int) : Int) := of_decide_eq_true (by first | (with_reducible assumption) | assumption); first | exact h_ | (have e_ := (Kd.R_reads' HO_5.out).1; omega) | simpa using h_); obtain rfl := k61_openM hM15; have HP15 := Kd.R_seg HX15.out ((ji9) : Int) (of_decide_eq_true (by first | (with_reducible assumption) | assumption)) (by have h_ : ((ji9) : Int) < ((x5_1.length : Int) : Int) := of_decide_eq_true (by first | (with_reducible assumption) | assumption); first | exact h_ | (have e_ := (Kd.R_reads' HO_5.out).1; omega) | simpa using h_) (seg := [.int .i64 (wrap64 (((rd_T61 x5_1 (ji9)).f1) + 1))]) (j := 1) hcl15 hcc15 (show 2 ≤ 2 from by decide) (x' := (⟨(rd_T61 x5_1 (ji9)).f0, wrap64 (((rd_T61 x5_1 (ji9)).f1) + 1)⟩ : S61)) (k61_mkM _ _ _ (⟨(rd_T61 x5_1 (ji9)).f0, wrap64 (((rd_T61 x5_1 (ji9)).f1) + 1)⟩ : S61) ) (fun _ hk => hk); have hx15_1 := hcc15 1 _ rfl; (try simp only [show (k61).sz = 2 from rfl, Nat.mul_one, Nat.add_zero] at hx15_1); have hf15_1 := hfr15 1; (try simp only [show (k61).sz = 2 from rfl, Nat.mul_one, Nat.add_zero] at hf15_1); clear hcl15 hcc15 hfr15 hM15) | ((with_reducible refine gate_store (t := 3) (p := 44) rfl ?_); (try (rw [drewN_self wr]; generalize hq_ : World.drewN wr _ = wr; have n0_ := Aside0.mk (Kd.R_at hq_ HO_5.out); have n1_ := Aside0.mk (blk_at hq_ BK556.out); have n2_ := Aside0.mk (below_at hq_ HB.out); clear hq_ HO_5 BK556 HB; have HO_5 := n0_; have BK556 := n1_; have HB := n2_; clear n0_ n1_ n2_; (try (have HX15 := Aside0.mk (show Kd.R k61 61 wr w.heap.size (fun _ => True) (.slice (some ⟨go13, 0, none⟩) x5_1.length co14) x5_1 from (rr HO_5.out)))); (try (obtain ⟨ce15, hcl15, hM15, hcc15, hfr15⟩ := Kd.R_elem HX15.out z61 ((ji9) : Int) (of_decide_eq_true (by first | (with_reducible assumption) | assumption)) (by have h_ : ((ji9) : Int) < ((x5_1.length : Int) : Int) := of_decide_eq_true (by first | (with_reducible assumption) | assumption); first | exact h_ | (have e_ := (Kd.R_reads' HO_5.out).1; omega) | simpa using h_))); (try (obtain rfl := k61_openM hM15)); (try (have HP15 := Kd.R_seg HX15.out ((ji9) : Int) (of_decide_eq_true (by first | (with_reducible assumption) | assumption)) (by have h_ : ((ji9) : Int) < ((x5_1.length : Int) : Int) := of_decide_eq_true (by first | (with_reducible assumption) | assumption); first | exact h_ | (have e_ := (Kd.R_reads' HO_5.out).1; omega) | simpa using h_) (seg := [.int .i64 (wrap64 (((rd_T61 x5_1 (ji9)).f1) + 1))]) (j := 1) hcl15 hcc15 (show 2 ≤ 2 from by decide) (x' := (⟨(rd_T61 x5_1 (ji9)).f0, wrap64 (((rd_T61 x5_1 (ji9)).f1) + 1)⟩ : S61)) (k61_mkM _ _ _ (⟨(rd_T61 x5_1 (ji9)).f0, wrap64 (((rd_T61 x5_1 (ji9)).f1) + 1)⟩ : S61) ) (fun _ hk => hk))); (try (have hx15_1 := hcc15 1 _ rfl)); (try (try simp only [show (k61).sz = 2 from rfl, Nat.mul_one, Nat.add_zero] at hx15_1)); (try (have hf15_1 := hfr15 1)); (try (try simp only [show (k61).sz = 2 from rfl, Nat.mul_one, Nat.add_zero] at hf15_1)); (try (clear hcl15 hcc15 hfr15 hM15)))); refine store_event (t := 3) (p := 44) (v := ?vo_w16) (w1 := (wr.setCell ⟨go13, ((ji9) : Int).toNat * 2 + 1, none⟩ (.int .i64 (wrap64 (((rd_T61 x5_1 (ji9)).f1) + 1))))) ?hg ?ho ?hn ?hr ?_; (case ho => rfl); (case hg => rfl); (case hn => rfl); (case hr => first | (go_simp; done) | (go_simp; rfl)); intro w16 hw; have hg : wr.grownBy w16 (some go13) := (by rw [hw]; exact HP15.2); have hp_ : Kd.R k61 61 w16 w.heap.size (fun _ => True) (.slice (some ⟨go13, 0, none⟩) x5_1.length co14) y564 := (by rw [hw, Ny564.out]; exact HP15.1); clear HP15; have n0_ := Aside0.mk (hp_); have n1_ := Aside0.mk (blk_grown (g := gx1_0) (o := .cells #[.slice A1_0 l1_0.length c1_0] 72 (0, 0)) (bk BK556) hg (Kd.R_ne HO_5.out BK556.out (by decide))); have n2_ := Aside0.mk ((by rw [hw]; exact below_set (HB.out) GB13.out : Below w.heap.size w w16)); clear HO_5; clear BK556; clear HB; have HO_5 := n0_; have BK556 := n1_; have HB := n2_; clear n0_ n1_ n2_; clear hg hw hp_))
         repeat (go_quiet (first | (go_at_call 77; (with_reducible refine (impl_blocksIn_1.calls x10_1 gx1_0 A1_0 c1_0 l1_0 true _ ?side1 ?side2 ?side3 A6.out).mono ?_); (case side1 => exact cb HR1_0 HB); (case side2 => exact HC1_0.out); (case side3 => (with_reducible repeat (first | refine blk_drewN ?_ _ | refine blk_drew ?_ | refine blk_alloc ?_ _)); exact BK556.out); rintro e w' ⟨rfl, ⟨nd, rfl⟩⟩; (try first | exact ⟨rfl, _, World.drewN_drewN _ _ _⟩ | exact ⟨rfl, _, Eq.trans (World.drewN_drewN _ _ _) (congrArg (World.drewN _) (Nat.add_assoc _ _ _))⟩); obtain ⟨Ao14, co14, eo14⟩ := Kd.R_slice HO_5.out; subst eo14; have p561 : 0 ≤ ((ji9) : Int) := of_decide_eq_true (by first | (with_reducible assumption) | assumption); have q561 : (ji9) < (x5_1.length : Int) := of_decide_eq_true (by first | (with_reducible assumption) | assumption); obtain ⟨ad561, e561, hx561_0, hx561_1⟩ := at_T61 (Kd.R_reads' HO_5.out).2.2 (ji9) p561 q561; cases e561; replace p561 := eq_true p561; replace q561 := eq_true q561; have p562 : 0 ≤ ((ji9) : Int) := of_decide_eq_true (by first | (with_reducible assumption) | assumption); have q562 : (ji9) < (x5_1.length : Int) := of_decide_eq_true (by first | (with_reducible assumption) | assumption); obtain ⟨ad562, e562, hx562_0, hx562_1⟩ := at_T61 (Kd.R_reads' HO_5.out).2.2 (ji9) p562 q562; obtain rfl : ad561 = ad562 := (by injection e562); replace p562 := eq_true p562; replace q562 := eq_true q562; have p563 : 0 ≤ ((ji9) : Int) := of_decide_eq_true (by first | (with_reducible assumption) | assumption); have q563 : (ji9) < (x5_1.length : Int) := of_decide_eq_true (by first | (with_reducible assumption) | assumption); obtain ⟨ad563, e563, hx563_0, hx563_1⟩ := at_T61 (Kd.R_reads' HO_5.out).2.2 (ji9) p563 q563; obtain rfl : ad561 = ad563 := (by injection e563); replace p563 := eq_true p563; replace q563 := eq_true q563; have p13 : 0 ≤ ((ji9) : Int) := of_decide_eq_true (by first | (with_reducible assumption) | assumption); have q13 : ((ji9) : Int) < ((x5_1.length : Int) : Int) := of_decide_eq_true (by first | (with_reducible assumption) | assumption); obtain ⟨go13, co13, eo13, gb13, gl13, cl13, HG13⟩ := Kd.R_form HO_5.out (by omega); (first | cases eo13 | (injection eo13 with ea_ en_ ec_; (first | subst ea_ | (injection ea_ with ea_; subst ea_)); subst ec_; clear en_)); have GB13 := Aside0.mk gb13; have GG13 := Aside0.mk HG13; clear gb13 gl13 HG13; (first | simp only [add_plain] at hx561_0 | skip); (first | simp only [add_plain] at hx561_1 | skip); (first | simp only [add_plain] at hx562_0 | skip); (first | simp only [add_plain] at hx562_1 | skip); (first | simp only [add_plain] at hx563_0 | skip); (first | simp only [add_plain] at hx563_1 | skip); obtain ⟨ce13, hcl13, hM13, hcc13, hfr13⟩ := Kd.R_elem HO_5.out z61 ((ji9) : Int) p13 q13; obtain rfl := k61_openM hM13; have hx13_0 : wr.cell? ⟨go13, ((ji9) : Int).toNat * 2, none⟩ = some (.int .i64 ((rd_T61 x5_1 (ji9)).f0)) := hcc13 0 _ rfl; have hx13_1 : wr.cell? ⟨go13, ((ji9) : Int).toNat * 2 + 1, none⟩ = some (.int .i64 ((rd_T61 x5_1 (ji9)).f1)) := hcc13 1 _ rfl; have hf13_0 : wr.frozen? ⟨go13, ((ji9) : Int).toNat * 2, none⟩ = false := hfr13 0; have hf13_1 : wr.frozen? ⟨go13, ((ji9) : Int).toNat * 2 + 1, none⟩ = false := hfr13 1; clear hcl13 hcc13 hfr13 hM13; replace p13 := eq_true p13; replace q13 := eq_true q13; have HX15 := Aside0.mk (show Kd.R k61 61 wr w.heap.size (fun _ => True) (.slice (some ⟨go13, 0, none⟩) x5_1.length co14) x5_1 from (rr HO_5.out)); obtain ⟨ce15, hcl15, hM15, hcc15, hfr15⟩ := Kd.R_elem HX15.out z61 ((ji9) : Int) (of_decide_eq_true (by first | (with_reducible assumption) | assumption)) (by have h_ : ((ji9) : Int) < ((x5_1.length : Int) : Int) := of_decide_eq_true (by first | (with_reducible assumption) | assumption); first | exact h_ | (have e_ := (Kd.R_reads' HO_5.out).1; omega) | simpa using h_); obtain rfl := k61_openM hM15; have HP15 := Kd.R_seg HX15.out ((ji9) : Int) (of_decide_eq_true (by first | (with_reducible assumption) | assumption)) (by have h_ : ((ji9) : Int) < ((x5_1.length : Int) : Int) := of_decide_eq_true (by first | (with_reducible assumption) | assumption); first | exact h_ | (have e_ := (Kd.R_reads' HO_5.out).1; omega) | simpa using h_) (seg := [.int .i64 (wrap64 (((rd_T61 x5_1 (ji9)).f1) + 1))]) (j := 1) hcl15 hcc15 (show 2 ≤ 2 from by decide) (x' := (⟨(rd_T61 x5_1 (ji9)).f0, wrap64 (((rd_T61 x5_1 (ji9)).f1) + 1)⟩ : S61)) (k61_mkM _ _ _ (⟨(rd_T61 x5_1 (ji9)).f0, wrap64 (((rd_T61 x5_1 (ji9)).f1) + 1)⟩ : S61) ) (fun _ hk => hk); have hx15_1 := hcc15 1 _ rfl; (try simp only [show (k61).sz = 2 from rfl, Nat.mul_one, Nat.add_zero] at hx15_1); have hf15_1 := hfr15 1; (try simp only [show (k61).sz = 2 from rfl, Nat.mul_one, Nat.add_zero] at hf15_1); clear hcl15 hcc15 hfr15 hM15) | ((with_reducible refine gate_store (t := 3) (p := 44) rfl ?_); (try (rw [drewN_self wr]; generalize hq_ : World.drewN wr _ = wr; have n0_ := Aside0.mk (Kd.R_at hq_ HO_5.out); have n1_ := Aside0.mk (blk_at hq_ BK556.out); have n2_ := Aside0.mk (below_at hq_ HB.out); clear hq_ HO_5 BK556 HB; have HO_5 := n0_; have BK556 := n1_; have HB := n2_; clear n0_ n1_ n2_; (try (have HX15 := Aside0.mk (show Kd.R k61 61 wr w.heap.size (fun _ => True) (.slice (some ⟨go13, 0, none⟩) x5_1.length co14) x5_1 from (rr HO_5.out)))); (try (obtain ⟨ce15, hcl15, hM15, hcc15, hfr15⟩ := Kd.R_elem HX15.out z61 ((ji9) : Int) (of_decide_eq_true (by first | (with_reducible assumption) | assumption)) (by have h_ : ((ji9) : Int) < ((x5_1.length : Int) : Int) := of_decide_eq_true (by first | (with_reducible assumption) | assumption); first | exact h_ | (have e_ := (Kd.R_reads' HO_5.out).1; omega) | simpa using h_))); (try (obtain rfl := k61_openM hM15)); (try (have HP15 := Kd.R_seg HX15.out ((ji9) : Int) (of_decide_eq_true (by first | (with_reducible assumption) | assumption)) (by have h_ : ((ji9) : Int) < ((x5_1.length : Int) : Int) := of_decide_eq_true (by first | (with_reducible assumption) | assumption); first | exact h_ | (have e_ := (Kd.R_reads' HO_5.out).1; omega) | simpa using h_) (seg := [.int .i64 (wrap64 (((rd_T61 x5_1 (ji9)).f1) + 1))]) (j := 1) hcl15 hcc15 (show 2 ≤ 2 from by decide) (x' := (⟨(rd_T61 x5_1 (ji9)).f0, wrap64 (((rd_T61 x5_1 (ji9)).f1) + 1)⟩ : S61)) (k61_mkM _ _ _ (⟨(rd_T61 x5_1 (ji9)).f0, wrap64 (((rd_T61 x5_1 (ji9)).f1) + 1)⟩ : S61) ) (fun _ hk => hk))); (try (have hx15_1 := hcc15 1 _ rfl)); (try (try simp only [show (k61).sz = 2 from rfl, Nat.mul_one, Nat.add_zero] at hx15_1)); (try (have hf15_1 := hfr15 1)); (try (try simp only [show (k61).sz = 2 from rfl, Nat.mul_one, Nat.add_zero] at hf15_1)); (try (clear hcl15 hcc15 hfr15 hM15)))); refine store_event (t := 3) (p := 44) (v := ?vo_w16) (w1 := (wr.setCell ⟨go13, ((ji9) : Int).toNat * 2 + 1, none⟩ (.int .i64 (wrap64 (((rd_T61 x5_1 (ji9)).f1) + 1))))) ?hg ?ho ?hn ?hr ?_; (case ho => rfl); (case hg => rfl); (case hn => rfl); (case hr => first | (go_simp; done) | (go_simp; rfl)); intro w16 hw; have hg : wr.grownBy w16 (some go13) := (by rw [hw]; exact HP15.2); have hp_ : Kd.R k61 61 w16 w.heap.size (fun _ => True) (.slice (some ⟨go13, 0, none⟩) x5_1.length co14) y564 := (by rw [hw, Ny564.out]; exact HP15.1); clear HP15; have n0_ := Aside0.mk (hp_); have n1_ := Aside0.mk (blk_grown (g := gx1_0) (o := .cells #[.slice A1_0 l1_0.length c1_0] 72 (0, 0)) (bk BK556) hg (Kd.R_ne HO_5.out BK556.out (by decide))); have n2_ := Aside0.mk ((by rw [hw]; exact below_set (HB.out) GB13.out : Below w.heap.size w w16)); clear HO_5; clear BK556; clear HB; have HO_5 := n0_; have BK556 := n1_; have HB := n2_; clear n0_ n1_ n2_; clear hg hw hp_)); try go_wp2_with (first | (go_at_call 77; (with_reducible refine (impl_blocksIn_1.calls x10_1 gx1_0 A1_0 c1_0 l1_0 true _ ?side1 ?side2 ?side3 A6.out).mono ?_); (case side1 => exact cb HR1_0 HB); (case side2 => exact HC1_0.out); (case side3 => (with_reducible repeat (first | refine blk_drewN ?_ _ | refine blk_drew ?_ | refine blk_alloc ?_ _)); exact BK556.out); rintro e w' ⟨rfl, ⟨nd, rfl⟩⟩; (try first | exact ⟨rfl, _, World.drewN_drewN _ _ _⟩ | exact ⟨rfl, _, Eq.trans (World.drewN_drewN _ _ _) (congrArg (World.drewN _) (Nat.add_assoc _ _ _))⟩); obtain ⟨Ao14, co14, eo14⟩ := Kd.R_slice HO_5.out; subst eo14; have p561 : 0 ≤ ((ji9) : Int) := of_decide_eq_true (by first | (with_reducible assumption) | assumption); have q561 : (ji9) < (x5_1.length : Int) := of_decide_eq_true (by first | (with_reducible assumption) | assumption); obtain ⟨ad561, e561, hx561_0, hx561_1⟩ := at_T61 (Kd.R_reads' HO_5.out).2.2 (ji9) p561 q561; cases e561; replace p561 := eq_true p561; replace q561 := eq_true q561; have p562 : 0 ≤ ((ji9) : Int) := of_decide_eq_true (by first | (with_reducible assumption) | assumption); have q562 : (ji9) < (x5_1.length : Int) := of_decide_eq_true (by first | (with_reducible assumption) | assumption); obtain ⟨ad562, e562, hx562_0, hx562_1⟩ := at_T61 (Kd.R_reads' HO_5.out).2.2 (ji9) p562 q562; obtain rfl : ad561 = ad562 := (by injection e562); replace p562 := eq_true p562; replace q562 := eq_true q562; have p563 : 0 ≤ ((ji9) : Int) := of_decide_eq_true (by first | (with_reducible assumption) | assumption); have q563 : (ji9) < (x5_1.length : Int) := of_decide_eq_true (by first | (with_reducible assumption) | assumption); obtain ⟨ad563, e563, hx563_0, hx563_1⟩ := at_T61 (Kd.R_reads' HO_5.out).2.2 (ji9) p563 q563; obtain rfl : ad561 = ad563 := (by injection e563); replace p563 := eq_true p563; replace q563 := eq_true q563; have p13 : 0 ≤ ((ji9) : Int) := of_decide_eq_true (by first | (with_reducible assumption) | assumption); have q13 : ((ji9) : Int) < ((x5_1.length : Int) : Int) := of_decide_eq_true (by first | (with_reducible assumption) | assumption); obtain ⟨go13, co13, eo13, gb13, gl13, cl13, HG13⟩ := Kd.R_form HO_5.out (by omega); (first | cases eo13 | (injection eo13 with ea_ en_ ec_; (first | subst ea_ | (injection ea_ with ea_; subst ea_)); subst ec_; clear en_)); have GB13 := Aside0.mk gb13; have GG13 := Aside0.mk HG13; clear gb13 gl13 HG13; (first | simp only [add_plain] at hx561_0 | skip); (first | simp only [add_plain] at hx561_1 | skip); (first | simp only [add_plain] at hx562_0 | skip); (first | simp only [add_plain] at hx562_1 | skip); (first | simp only [add_plain] at hx563_0 | skip); (first | simp only [add_plain] at hx563_1 | skip); obtain ⟨ce13, hcl13, hM13, hcc13, hfr13⟩ := Kd.R_elem HO_5.out z61 ((ji9) : Int) p13 q13; obtain rfl := k61_openM hM13; have hx13_0 : wr.cell? ⟨go13, ((ji9) : Int).toNat * 2, none⟩ = some (.int .i64 ((rd_T61 x5_1 (ji9)).f0)) := hcc13 0 _ rfl; have hx13_1 : wr.cell? ⟨go13, ((ji9) : Int).toNat * 2 + 1, none⟩ = some (.int .i64 ((rd_T61 x5_1 (ji9)).f1)) := hcc13 1 _ rfl; have hf13_0 : wr.frozen? ⟨go13, ((ji9) : Int).toNat * 2, none⟩ = false := hfr13 0; have hf13_1 : wr.frozen? ⟨go13, ((ji9) : Int).toNat * 2 + 1, none⟩ = false := hfr13 1; clear hcl13 hcc13 hfr13 hM13; replace p13 := eq_true p13; replace q13 := eq_true q13; have HX15 := Aside0.mk (show Kd.R k61 61 wr w.heap.size (fun _ => True) (.slice (some ⟨go13, 0, none⟩) x5_1.length co14) x5_1 from (rr HO_5.out)); obtain ⟨ce15, hcl15, hM15, hcc15, hfr15⟩ := Kd.R_elem HX15.out z61 ((ji9) : Int) (of_decide_eq_true (by first | (with_reducible assumption) | assumption)) (by have h_ : ((ji9) : Int) < ((x5_1.length : Int) : Int) := of_decide_eq_true (by first | (with_reducible assumption) | assumption); first | exact h_ | (have e_ := (Kd.R_reads' HO_5.out).1; omega) | simpa using h_); obtain rfl := k61_openM hM15; have HP15 := Kd.R_seg HX15.out ((ji9) : Int) (of_decide_eq_true (by first | (with_reducible assumption) | assumption)) (by have h_ : ((ji9) : Int) < ((x5_1.length : Int) : Int) := of_decide_eq_true (by first | (with_reducible assumption) | assumption); first | exact h_ | (have e_ := (Kd.R_reads' HO_5.out).1; omega) | simpa using h_) (seg := [.int .i64 (wrap64 (((rd_T61 x5_1 (ji9)).f1) + 1))]) (j := 1) hcl15 hcc15 (show 2 ≤ 2 from by decide) (x' := (⟨(rd_T61 x5_1 (ji9)).f0, wrap64 (((rd_T61 x5_1 (ji9)).f1) + 1)⟩ : S61)) (k61_mkM _ _ _ (⟨(rd_T61 x5_1 (ji9)).f0, wrap64 (((rd_T61 x5_1 (ji9)).f1) + 1)⟩ : S61) ) (fun _ hk => hk); have hx15_1 := hcc15 1 _ rfl; (try simp only [show (k61).sz = 2 from rfl, Nat.mul_one, Nat.add_zero] at hx15_1); have hf15_1 := hfr15 1; (try simp only [show (k61).sz = 2 from rfl, Nat.mul_one, Nat.add_zero] at hf15_1); clear hcl15 hcc15 hfr15 hM15) | ((with_reducible refine gate_store (t := 3) (p := 44) rfl ?_); (try (rw [drewN_self wr]; generalize hq_ : World.drewN wr _ = wr; have n0_ := Aside0.mk (Kd.R_at hq_ HO_5.out); have n1_ := Aside0.mk (blk_at hq_ BK556.out); have n2_ := Aside0.mk (below_at hq_ HB.out); clear hq_ HO_5 BK556 HB; have HO_5 := n0_; have BK556 := n1_; have HB := n2_; clear n0_ n1_ n2_; (try (have HX15 := Aside0.mk (show Kd.R k61 61 wr w.heap.size (fun _ => True) (.slice (some ⟨go13, 0, none⟩) x5_1.length co14) x5_1 from (rr HO_5.out)))); (try (obtain ⟨ce15, hcl15, hM15, hcc15, hfr15⟩ := Kd.R_elem HX15.out z61 ((ji9) : Int) (of_decide_eq_true (by first | (with_reducible assumption) | assumption)) (by have h_ : ((ji9) : Int) < ((x5_1.length : Int) : Int) := of_decide_eq_true (by first | (with_reducible assumption) | assumption); first | exact h_ | (have e_ := (Kd.R_reads' HO_5.out).1; omega) | simpa using h_))); (try (obtain rfl := k61_openM hM15)); (try (have HP15 := Kd.R_seg HX15.out ((ji9) : Int) (of_decide_eq_true (by first | (with_reducible assumption) | assumption)) (by have h_ : ((ji9) : Int) < ((x5_1.length : Int) : Int) := of_decide_eq_true (by first | (with_reducible assumption) | assumption); first | exact h_ | (have e_ := (Kd.R_reads' HO_5.out).1; omega) | simpa using h_) (seg := [.int .i64 (wrap64 (((rd_T61 x5_1 (ji9)).f1) + 1))]) (j := 1) hcl15 hcc15 (show 2 ≤ 2 from by decide) (x' := (⟨(rd_T61 x5_1 (ji9)).f0, wrap64 (((rd_T61 x5_1 (ji9)).f1) + 1)⟩ : S61)) (k61_mkM _ _ _ (⟨(rd_T61 x5_1 (ji9)).f0, wrap64 (((rd_T61 x5_1 (ji9)).f1) + 1)⟩ : S61) ) (fun _ hk => hk))); (try (have hx15_1 := hcc15 1 _ rfl)); (try (try simp only [show (k61).sz = 2 from rfl, Nat.mul_one, Nat.add_zero] at hx15_1)); (try (have hf15_1 := hfr15 1)); (try (try simp only [show (k61).sz = 2 from rfl, Nat.mul_one, Nat.add_zero] at hf15_1)); (try (clear hcl15 hcc15 hfr15 hM15)))); refine store_event (t := 3) (p := 44) (v := ?vo_w16) (w1 := (wr.setCell ⟨go13, ((ji9) : Int).toNat * 2 + 1, none⟩ (.int .i64 (wrap64 (((rd_T61 x5_1 (ji9)).f1) + 1))))) ?hg ?ho ?hn ?hr ?_; (case ho => rfl); (case hg => rfl); (case hn => rfl); (case hr => first | (go_simp; done) | (go_simp; rfl)); intro w16 hw; have hg : wr.grownBy w16 (some go13) := (by rw [hw]; exact HP15.2); have hp_ : Kd.R k61 61 w16 w.heap.size (fun _ => True) (.slice (some ⟨go13, 0, none⟩) x5_1.length co14) y564 := (by rw [hw, Ny564.out]; exact HP15.1); clear HP15; have n0_ := Aside0.mk (hp_); have n1_ := Aside0.mk (blk_grown (g := gx1_0) (o := .cells #[.slice A1_0 l1_0.length c1_0] 72 (0, 0)) (bk BK556) hg (Kd.R_ne HO_5.out BK556.out (by decide))); have n2_ := Aside0.mk ((by rw [hw]; exact below_set (HB.out) GB13.out : Below w.heap.size w w16)); clear HO_5; clear BK556; clear HB; have HO_5 := n0_; have BK556 := n1_; have HB := n2_; clear n0_ n1_ n2_; clear hg hw hp_)))
         go_roundg k1
         case measure => have := HK1.out; omega
         case rel => exact ⟨(y564), (wrap64 (x10_1 + 1)), (by first | rfl | (simp; done) | (simp [*]; done)), H', ⟨by have := HK1.out; omega⟩, ⟨rr HO_5.out⟩, ⟨bk BK556⟩, ⟨bs HB⟩⟩
        ·
         rw [if_neg c12] at H
         have c12b0 : ((wrap64 (((rd_T61 x5_1 (ji9)).f0) + ((rd_T61 x5_1 (ji9)).f1))) == x10_1) = false := beq_eq_false_iff_ne.mpr c12
         have c12b1 : ((wrap64 (((rd_T61 x5_1 (ji9)).f0) + ((rd_T61 x5_1 (ji9)).f1))) != x10_1) = true := bne_iff_ne.mpr c12
         by_cases c17 : x5_1.length < 8796093022208
         ·
          rw [if_pos c17] at H
          have LMc17 := Aside0.mk c17
          clear c17
          obtain ⟨y565, hy565⟩ : ∃ y_ : List (S61), y_ = (x5_1 ++ [(⟨x10_1, 1⟩ : S61)]) := ⟨_, rfl⟩
          replace H : (impl_merged_at_impl_blocksIn_1.l0 k1 y565 a0 (wrap64 (x10_1 + 1)) l1_0) = some r := by first | (rw [hy565]; with_reducible exact H) | (have H2_ := (Option.bind_some _ _).symm.trans H; rw [hy565]; with_reducible exact H2_) | (have H2_ := (Option.bind_some _ _).symm.trans H; with_reducible exact H2_) | with_reducible exact H | (rw [hy565]; exact H) | exact H
          have Ny565 := Aside0.mk hy565
          clear hy565
          have H' := Aside0.mk H
          clear H
          go_wp2_with (first | (go_at_call 77; (with_reducible refine (impl_blocksIn_1.calls x10_1 gx1_0 A1_0 c1_0 l1_0 true _ ?side1 ?side2 ?side3 A6.out).mono ?_); (case side1 => exact cb HR1_0 HB); (case side2 => exact HC1_0.out); (case side3 => (with_reducible repeat (first | refine blk_drewN ?_ _ | refine blk_drew ?_ | refine blk_alloc ?_ _)); exact BK556.out); rintro e w' ⟨rfl, ⟨nd, rfl⟩⟩; (try first | exact ⟨rfl, _, World.drewN_drewN _ _ _⟩ | exact ⟨rfl, _, Eq.trans (World.drewN_drewN _ _ _) (congrArg (World.drewN _) (Nat.add_assoc _ _ _))⟩); obtain ⟨Ao18, co18, eo18⟩ := Kd.R_slice HO_5.out; subst eo18; have p561 : 0 ≤ ((ji9) : Int) := of_decide_eq_true (by first | (with_reducible assumption) | assumption); have q561 : (ji9) < (x5_1.length : Int) := of_decide_eq_true (by first | (with_reducible assumption) | assumption); obtain ⟨ad561, e561, hx561_0, hx561_1⟩ := at_T61 (Kd.R_reads' HO_5.out).2.2 (ji9) p561 q561; cases e561; replace p561 := eq_true p561; replace q561 := eq_true q561; have p562 : 0 ≤ ((ji9) : Int) := of_decide_eq_true (by first | (with_reducible assumption) | assumption); have q562 : (ji9) < (x5_1.length : Int) := of_decide_eq_true (by first | (with_reducible assumption) | assumption); obtain ⟨ad562, e562, hx562_0, hx562_1⟩ := at_T61 (Kd.R_reads' HO_5.out).2.2 (ji9) p562 q562; obtain rfl : ad561 = ad562 := (by injection e562); replace p562 := eq_true p562; replace q562 := eq_true q562) | ((with_reducible refine gate_builtin (b := .append) (xs := #[.tmp 45, .tmp 48]) rfl ?_); at_builtin; refine Kd.R_append k61 (w0 := w) w.heap.size rfl (.tmp 45) (.tmp 48) 38 61 (.agg #[(.int .i64 0), (.int .i64 0)]) 16 rfl Try.underlying38 info61 rfl (by decide) (by omega) (.slice (some ad561) x5_1.length co18) x5_1 (⟨x10_1, 1⟩ : S61) [.int .i64 x10_1, .int .i64 1] (fun _ => True) (fun _ => False) rfl rfl ?aP (fun _ hk => hk.elim) ?aF ?aO ?aB ?aS ?aL ?_; (case aP => exact k61_mkM _ _ _ (⟨x10_1, 1⟩ : S61)); (case aB => exact (bs HB)); (case aF => exact (fun _ _ => trivial)); (case aO => exact (rr HO_5.out)); (case aS => exact (below_size (bs HB))); (case aL => have := LMc17.out; omega); intro v566 w19 ho hb hg hat; rw [← Ny565.out] at ho; have n0_ := Aside0.mk (blk_grown (g := gx1_0) (o := .cells #[.slice A1_0 l1_0.length c1_0] 72 (0, 0)) (bk BK556) hg (Kd.R_ne HO_5.out BK556.out (by decide))); have n1_ := Aside0.mk (hb); have n2_ := Aside0.mk (ho); clear BK556; clear HB; clear HO_5; have BK556 := n0_; have HB := n1_; have HO567 := n2_; clear n0_ n1_ n2_; clear ho hb hg hat))
          repeat (go_quiet (first | (go_at_call 77; (with_reducible refine (impl_blocksIn_1.calls x10_1 gx1_0 A1_0 c1_0 l1_0 true _ ?side1 ?side2 ?side3 A6.out).mono ?_); (case side1 => exact cb HR1_0 HB); (case side2 => exact HC1_0.out); (case side3 => (with_reducible repeat (first | refine blk_drewN ?_ _ | refine blk_drew ?_ | refine blk_alloc ?_ _)); exact BK556.out); rintro e w' ⟨rfl, ⟨nd, rfl⟩⟩; (try first | exact ⟨rfl, _, World.drewN_drewN _ _ _⟩ | exact ⟨rfl, _, Eq.trans (World.drewN_drewN _ _ _) (congrArg (World.drewN _) (Nat.add_assoc _ _ _))⟩); obtain ⟨Ao18, co18, eo18⟩ := Kd.R_slice HO_5.out; subst eo18; have p561 : 0 ≤ ((ji9) : Int) := of_decide_eq_true (by first | (with_reducible assumption) | assumption); have q561 : (ji9) < (x5_1.length : Int) := of_decide_eq_true (by first | (with_reducible assumption) | assumption); obtain ⟨ad561, e561, hx561_0, hx561_1⟩ := at_T61 (Kd.R_reads' HO_5.out).2.2 (ji9) p561 q561; cases e561; replace p561 := eq_true p561; replace q561 := eq_true q561; have p562 : 0 ≤ ((ji9) : Int) := of_decide_eq_true (by first | (with_reducible assumption) | assumption); have q562 : (ji9) < (x5_1.length : Int) := of_decide_eq_true (by first | (with_reducible assumption) | assumption); obtain ⟨ad562, e562, hx562_0, hx562_1⟩ := at_T61 (Kd.R_reads' HO_5.out).2.2 (ji9) p562 q562; obtain rfl : ad561 = ad562 := (by injection e562); replace p562 := eq_true p562; replace q562 := eq_true q562) | ((with_reducible refine gate_builtin (b := .append) (xs := #[.tmp 45, .tmp 48]) rfl ?_); at_builtin; refine Kd.R_append k61 (w0 := w) w.heap.size rfl (.tmp 45) (.tmp 48) 38 61 (.agg #[(.int .i64 0), (.int .i64 0)]) 16 rfl Try.underlying38 info61 rfl (by decide) (by omega) (.slice (some ad561) x5_1.length co18) x5_1 (⟨x10_1, 1⟩ : S61) [.int .i64 x10_1, .int .i64 1] (fun _ => True) (fun _ => False) rfl rfl ?aP (fun _ hk => hk.elim) ?aF ?aO ?aB ?aS ?aL ?_; (case aP => exact k61_mkM _ _ _ (⟨x10_1, 1⟩ : S61)); (case aB => exact (bs HB)); (case aF => exact (fun _ _ => trivial)); (case aO => exact (rr HO_5.out)); (case aS => exact (below_size (bs HB))); (case aL => have := LMc17.out; omega); intro v566 w19 ho hb hg hat; rw [← Ny565.out] at ho; have n0_ := Aside0.mk (blk_grown (g := gx1_0) (o := .cells #[.slice A1_0 l1_0.length c1_0] 72 (0, 0)) (bk BK556) hg (Kd.R_ne HO_5.out BK556.out (by decide))); have n1_ := Aside0.mk (hb); have n2_ := Aside0.mk (ho); clear BK556; clear HB; clear HO_5; have BK556 := n0_; have HB := n1_; have HO567 := n2_; clear n0_ n1_ n2_; clear ho hb hg hat)); try go_wp2_with (first | (go_at_call 77; (with_reducible refine (impl_blocksIn_1.calls x10_1 gx1_0 A1_0 c1_0 l1_0 true _ ?side1 ?side2 ?side3 A6.out).mono ?_); (case side1 => exact cb HR1_0 HB); (case side2 => exact HC1_0.out); (case side3 => (with_reducible repeat (first | refine blk_drewN ?_ _ | refine blk_drew ?_ | refine blk_alloc ?_ _)); exact BK556.out); rintro e w' ⟨rfl, ⟨nd, rfl⟩⟩; (try first | exact ⟨rfl, _, World.drewN_drewN _ _ _⟩ | exact ⟨rfl, _, Eq.trans (World.drewN_drewN _ _ _) (congrArg (World.drewN _) (Nat.add_assoc _ _ _))⟩); obtain ⟨Ao18, co18, eo18⟩ := Kd.R_slice HO_5.out; subst eo18; have p561 : 0 ≤ ((ji9) : Int) := of_decide_eq_true (by first | (with_reducible assumption) | assumption); have q561 : (ji9) < (x5_1.length : Int) := of_decide_eq_true (by first | (with_reducible assumption) | assumption); obtain ⟨ad561, e561, hx561_0, hx561_1⟩ := at_T61 (Kd.R_reads' HO_5.out).2.2 (ji9) p561 q561; cases e561; replace p561 := eq_true p561; replace q561 := eq_true q561; have p562 : 0 ≤ ((ji9) : Int) := of_decide_eq_true (by first | (with_reducible assumption) | assumption); have q562 : (ji9) < (x5_1.length : Int) := of_decide_eq_true (by first | (with_reducible assumption) | assumption); obtain ⟨ad562, e562, hx562_0, hx562_1⟩ := at_T61 (Kd.R_reads' HO_5.out).2.2 (ji9) p562 q562; obtain rfl : ad561 = ad562 := (by injection e562); replace p562 := eq_true p562; replace q562 := eq_true q562) | ((with_reducible refine gate_builtin (b := .append) (xs := #[.tmp 45, .tmp 48]) rfl ?_); at_builtin; refine Kd.R_append k61 (w0 := w) w.heap.size rfl (.tmp 45) (.tmp 48) 38 61 (.agg #[(.int .i64 0), (.int .i64 0)]) 16 rfl Try.underlying38 info61 rfl (by decide) (by omega) (.slice (some ad561) x5_1.length co18) x5_1 (⟨x10_1, 1⟩ : S61) [.int .i64 x10_1, .int .i64 1] (fun _ => True) (fun _ => False) rfl rfl ?aP (fun _ hk => hk.elim) ?aF ?aO ?aB ?aS ?aL ?_; (case aP => exact k61_mkM _ _ _ (⟨x10_1, 1⟩ : S61)); (case aB => exact (bs HB)); (case aF => exact (fun _ _ => trivial)); (case aO => exact (rr HO_5.out)); (case aS => exact (below_size (bs HB))); (case aL => have := LMc17.out; omega); intro v566 w19 ho hb hg hat; rw [← Ny565.out] at ho; have n0_ := Aside0.mk (blk_grown (g := gx1_0) (o := .cells #[.slice A1_0 l1_0.length c1_0] 72 (0, 0)) (bk BK556) hg (Kd.R_ne HO_5.out BK556.out (by decide))); have n1_ := Aside0.mk (hb); have n2_ := Aside0.mk (ho); clear BK556; clear HB; clear HO_5; have BK556 := n0_; have HB := n1_; have HO567 := n2_; clear n0_ n1_ n2_; clear ho hb hg hat)))
          go_roundg k1
          case measure => have := HK1.out; omega
          case rel => exact ⟨(y565), (wrap64 (x10_1 + 1)), (by first | rfl | (simp; done) | (simp [*]; done)), H', ⟨by have := HK1.out; omega⟩, ⟨rr HO567.out⟩, ⟨bk BK556⟩, ⟨bs HB⟩⟩
         ·
          rw [if_neg c17] at H
          exact absurd H (by simp)
       ·
        rw [if_neg c11] at H
        exact absurd H (by simp)
      ·
       rw [if_neg c10] at H
       exact absurd H (by simp)
     ·
      rw [if_neg c8] at H
      have c8b0 : decide (0 ≤ (wrap64 ((x5_1.length : Int) - 1))) = false := decide_eq_false c8
      clear c8
      by_cases c20 : x5_1.length < 8796093022208
      ·
       rw [if_pos c20] at H
       have LMc20 := Aside0.mk c20
       clear c20
       obtain ⟨y568, hy568⟩ : ∃ y_ : List (S61), y_ = (x5_1 ++ [(⟨x10_1, 1⟩ : S61)]) := ⟨_, rfl⟩
       replace H : (impl_merged_at_impl_blocksIn_1.l0 k1 y568 a0 (wrap64 (x10_1 + 1)) l1_0) = some r := by first | (rw [hy568]; with_reducible exact H) | (have H2_ := (Option.bind_some _ _).symm.trans H; rw [hy568]; with_reducible exact H2_) | (have H2_ := (Option.bind_some _ _).symm.trans H; with_reducible exact H2_) | with_reducible exact H | (rw [hy568]; exact H) | exact H
       have Ny568 := Aside0.mk hy568
       clear hy568
       have H' := Aside0.mk H
       clear H
       go_wp2_with (first | (go_at_call 77; (with_reducible refine (impl_blocksIn_1.calls x10_1 gx1_0 A1_0 c1_0 l1_0 true _ ?side1 ?side2 ?side3 A6.out).mono ?_); (case side1 => exact cb HR1_0 HB); (case side2 => exact HC1_0.out); (case side3 => (with_reducible repeat (first | refine blk_drewN ?_ _ | refine blk_drew ?_ | refine blk_alloc ?_ _)); exact BK556.out); rintro e w' ⟨rfl, ⟨nd, rfl⟩⟩; (try first | exact ⟨rfl, _, World.drewN_drewN _ _ _⟩ | exact ⟨rfl, _, Eq.trans (World.drewN_drewN _ _ _) (congrArg (World.drewN _) (Nat.add_assoc _ _ _))⟩); obtain ⟨Ao21, co21, eo21⟩ := Kd.R_slice HO_5.out; subst eo21) | ((with_reducible refine gate_builtin (b := .append) (xs := #[.tmp 45, .tmp 48]) rfl ?_); at_builtin; refine Kd.R_append k61 (w0 := w) w.heap.size rfl (.tmp 45) (.tmp 48) 38 61 (.agg #[(.int .i64 0), (.int .i64 0)]) 16 rfl Try.underlying38 info61 rfl (by decide) (by omega) (.slice Ao21 x5_1.length co21) x5_1 (⟨x10_1, 1⟩ : S61) [.int .i64 x10_1, .int .i64 1] (fun _ => True) (fun _ => False) rfl rfl ?aP (fun _ hk => hk.elim) ?aF ?aO ?aB ?aS ?aL ?_; (case aP => exact k61_mkM _ _ _ (⟨x10_1, 1⟩ : S61)); (case aB => exact (bs HB)); (case aF => exact (fun _ _ => trivial)); (case aO => exact (rr HO_5.out)); (case aS => exact (below_size (bs HB))); (case aL => have := LMc20.out; omega); intro v569 w22 ho hb hg hat; rw [← Ny568.out] at ho; have n0_ := Aside0.mk (blk_grown (g := gx1_0) (o := .cells #[.slice A1_0 l1_0.length c1_0] 72 (0, 0)) (bk BK556) hg (Kd.R_ne HO_5.out BK556.out (by decide))); have n1_ := Aside0.mk (hb); have n2_ := Aside0.mk (ho); clear BK556; clear HB; clear HO_5; have BK556 := n0_; have HB := n1_; have HO570 := n2_; clear n0_ n1_ n2_; clear ho hb hg hat))
       repeat (go_quiet (first | (go_at_call 77; (with_reducible refine (impl_blocksIn_1.calls x10_1 gx1_0 A1_0 c1_0 l1_0 true _ ?side1 ?side2 ?side3 A6.out).mono ?_); (case side1 => exact cb HR1_0 HB); (case side2 => exact HC1_0.out); (case side3 => (with_reducible repeat (first | refine blk_drewN ?_ _ | refine blk_drew ?_ | refine blk_alloc ?_ _)); exact BK556.out); rintro e w' ⟨rfl, ⟨nd, rfl⟩⟩; (try first | exact ⟨rfl, _, World.drewN_drewN _ _ _⟩ | exact ⟨rfl, _, Eq.trans (World.drewN_drewN _ _ _) (congrArg (World.drewN _) (Nat.add_assoc _ _ _))⟩); obtain ⟨Ao21, co21, eo21⟩ := Kd.R_slice HO_5.out; subst eo21) | ((with_reducible refine gate_builtin (b := .append) (xs := #[.tmp 45, .tmp 48]) rfl ?_); at_builtin; refine Kd.R_append k61 (w0 := w) w.heap.size rfl (.tmp 45) (.tmp 48) 38 61 (.agg #[(.int .i64 0), (.int .i64 0)]) 16 rfl Try.underlying38 info61 rfl (by decide) (by omega) (.slice Ao21 x5_1.length co21) x5_1 (⟨x10_1, 1⟩ : S61) [.int .i64 x10_1, .int .i64 1] (fun _ => True) (fun _ => False) rfl rfl ?aP (fun _ hk => hk.elim) ?aF ?aO ?aB ?aS ?aL ?_; (case aP => exact k61_mkM _ _ _ (⟨x10_1, 1⟩ : S61)); (case aB => exact (bs HB)); (case aF => exact (fun _ _ => trivial)); (case aO => exact (rr HO_5.out)); (case aS => exact (below_size (bs HB))); (case aL => have := LMc20.out; omega); intro v569 w22 ho hb hg hat; rw [← Ny568.out] at ho; have n0_ := Aside0.mk (blk_grown (g := gx1_0) (o := .cells #[.slice A1_0 l1_0.length c1_0] 72 (0, 0)) (bk BK556) hg (Kd.R_ne HO_5.out BK556.out (by decide))); have n1_ := Aside0.mk (hb); have n2_ := Aside0.mk (ho); clear BK556; clear HB; clear HO_5; have BK556 := n0_; have HB := n1_; have HO570 := n2_; clear n0_ n1_ n2_; clear ho hb hg hat)); try go_wp2_with (first | (go_at_call 77; (with_reducible refine (impl_blocksIn_1.calls x10_1 gx1_0 A1_0 c1_0 l1_0 true _ ?side1 ?side2 ?side3 A6.out).mono ?_); (case side1 => exact cb HR1_0 HB); (case side2 => exact HC1_0.out); (case side3 => (with_reducible repeat (first | refine blk_drewN ?_ _ | refine blk_drew ?_ | refine blk_alloc ?_ _)); exact BK556.out); rintro e w' ⟨rfl, ⟨nd, rfl⟩⟩; (try first | exact ⟨rfl, _, World.drewN_drewN _ _ _⟩ | exact ⟨rfl, _, Eq.trans (World.drewN_drewN _ _ _) (congrArg (World.drewN _) (Nat.add_assoc _ _ _))⟩); obtain ⟨Ao21, co21, eo21⟩ := Kd.R_slice HO_5.out; subst eo21) | ((with_reducible refine gate_builtin (b := .append) (xs := #[.tmp 45, .tmp 48]) rfl ?_); at_builtin; refine Kd.R_append k61 (w0 := w) w.heap.size rfl (.tmp 45) (.tmp 48) 38 61 (.agg #[(.int .i64 0), (.int .i64 0)]) 16 rfl Try.underlying38 info61 rfl (by decide) (by omega) (.slice Ao21 x5_1.length co21) x5_1 (⟨x10_1, 1⟩ : S61) [.int .i64 x10_1, .int .i64 1] (fun _ => True) (fun _ => False) rfl rfl ?aP (fun _ hk => hk.elim) ?aF ?aO ?aB ?aS ?aL ?_; (case aP => exact k61_mkM _ _ _ (⟨x10_1, 1⟩ : S61)); (case aB => exact (bs HB)); (case aF => exact (fun _ _ => trivial)); (case aO => exact (rr HO_5.out)); (case aS => exact (below_size (bs HB))); (case aL => have := LMc20.out; omega); intro v569 w22 ho hb hg hat; rw [← Ny568.out] at ho; have n0_ := Aside0.mk (blk_grown (g := gx1_0) (o := .cells #[.slice A1_0 l1_0.length c1_0] 72 (0, 0)) (bk BK556) hg (Kd.R_ne HO_5.out BK556.out (by decide))); have n1_ := Aside0.mk (hb); have n2_ := Aside0.mk (ho); clear BK556; clear HB; clear HO_5; have BK556 := n0_; have HB := n1_; have HO570 := n2_; clear n0_ n1_ n2_; clear ho hb hg hat)))
       go_roundg k1
       case measure => have := HK1.out; omega
       case rel => exact ⟨(y568), (wrap64 (x10_1 + 1)), (by first | rfl | (simp; done) | (simp [*]; done)), H', ⟨by have := HK1.out; omega⟩, ⟨rr HO570.out⟩, ⟨bk BK556⟩, ⟨bs HB⟩⟩
      ·
       rw [if_neg c20] at H
       exact absurd H (by simp)
    ·
     replace c7 := Bool.eq_false_iff.mpr c7
     subst c7
     rw [if_neg (show ¬ (false = true) by decide)] at H
     have H' := Aside0.mk H
     clear H
     go_wp2_with (first | (go_at_call 77; (with_reducible refine (impl_blocksIn_1.calls x10_1 gx1_0 A1_0 c1_0 l1_0 false _ ?side1 ?side2 ?side3 A6.out).mono ?_); (case side1 => exact cb HR1_0 HB); (case side2 => exact HC1_0.out); (case side3 => (with_reducible repeat (first | refine blk_drewN ?_ _ | refine blk_drew ?_ | refine blk_alloc ?_ _)); exact BK556.out); rintro e w' ⟨rfl, ⟨nd, rfl⟩⟩; (try first | exact ⟨rfl, _, World.drewN_drewN _ _ _⟩ | exact ⟨rfl, _, Eq.trans (World.drewN_drewN _ _ _) (congrArg (World.drewN _) (Nat.add_assoc _ _ _))⟩)))
     repeat (go_quiet (first | (go_at_call 77; (with_reducible refine (impl_blocksIn_1.calls x10_1 gx1_0 A1_0 c1_0 l1_0 false _ ?side1 ?side2 ?side3 A6.out).mono ?_); (case side1 => exact cb HR1_0 HB); (case side2 => exact HC1_0.out); (case side3 => (with_reducible repeat (first | refine blk_drewN ?_ _ | refine blk_drew ?_ | refine blk_alloc ?_ _)); exact BK556.out); rintro e w' ⟨rfl, ⟨nd, rfl⟩⟩; (try first | exact ⟨rfl, _, World.drewN_drewN _ _ _⟩ | exact ⟨rfl, _, Eq.trans (World.drewN_drewN _ _ _) (congrArg (World.drewN _) (Nat.add_assoc _ _ _))⟩))); try go_wp2_with (first | (go_at_call 77; (with_reducible refine (impl_blocksIn_1.calls x10_1 gx1_0 A1_0 c1_0 l1_0 false _ ?side1 ?side2 ?side3 A6.out).mono ?_); (case side1 => exact cb HR1_0 HB); (case side2 => exact HC1_0.out); (case side3 => (with_reducible repeat (first | refine blk_drewN ?_ _ | refine blk_drew ?_ | refine blk_alloc ?_ _)); exact BK556.out); rintro e w' ⟨rfl, ⟨nd, rfl⟩⟩; (try first | exact ⟨rfl, _, World.drewN_drewN _ _ _⟩ | exact ⟨rfl, _, Eq.trans (World.drewN_drewN _ _ _) (congrArg (World.drewN _) (Nat.add_assoc _ _ _))⟩))))
     go_roundg k1
     case measure => have := HK1.out; omega
     case rel => exact ⟨(x5_1), (wrap64 (x10_1 + 1)), (by first | rfl | (simp; done) | (simp [*]; done)), H', ⟨by have := HK1.out; omega⟩, ⟨rr HO_5.out⟩, ⟨bk BK556⟩, ⟨bs HB⟩⟩
   ·
    rw [if_neg c5] at H
    have c5b0 : decide (x10_1 < a0) = false := decide_eq_false c5
    clear c5
    obtain rfl := Option.some.inj H
    go_wp2
    repeat (go_quiet (fail); try go_wp2)
    go_ret
    exact ⟨_, by first | rfl | (simp [errW_none, errW_some] <;> rfl) | (simp [*, errW_none, errW_some] <;> rfl), by (with_reducible repeat (first | apply Kd.R_alloc | apply Kd.R_drewN | apply Kd.R_drew)); exact HO_5.out, bs HB⟩

/-! ### impl_blocksIn: function 67 -/
def impl_blocksIn.l0 : Nat → List (S78) → Int → Int → List Bool → Option ((List (S61)))
 | 0, _, _, _, _ => none
 | k + 1, x7, x8, x9, x575000 => if x9 < x8 then (if 0 ≤ x9 then (if x9 < (x7.length : Int) then (if (rd_T78 x7 x9).f0 = true then (if 0 ≤ ((rd_T78 x7 x9).f1) then (if ((rd_T78 x7 x9).f1) < (x575000.length : Int) then (impl_blocksIn.l0 k x7 x8 (wrap64 (x9 + 1)) (x575000.set (((rd_T78 x7 x9).f1) : Int).toNat true)) else (none)) else (none)) else (impl_blocksIn.l0 k x7 x8 (wrap64 (x9 + 1)) x575000)) else (none)) else (none)) else ((impl_merged_at_impl_blocksIn_1.f k 400 x575000).bind fun t578 => (some t578))
def impl_blocksIn.f (k : Nat) (l0 : List (S78)) : Option ((List (S61))) := if 400 ≤ 281474976710656 then (impl_blocksIn.l0 k l0 (l0.length : Int) 0 (List.replicate 400 false)) else (none)
theorem impl_blocksIn.mono_l : ∀ k, (∀ y0 y1 y2 y3, LeO (impl_blocksIn.l0 k y0 y1 y2 y3) (impl_blocksIn.l0 (k + 1) y0 y1 y2 y3))
 | 0 => fun _ _ _ _ r h => by simp [impl_blocksIn.l0] at h
 | k + 1 => by
  have ih0 := impl_blocksIn.mono_l k
  ·
   intro y0 y1 y2 y3
   unfold impl_blocksIn.l0
   repeat' first
   | (with_reducible exact ih0 _ _ _ _)
   | (with_reducible exact impl_merged_at_impl_blocksIn_1.mono _ _ _)
   | (with_reducible exact LeO.refl _)
   | (with_reducible exact LeO.none _)
   | (with_reducible refine LeO.ite ?_ ?_)
   | (with_reducible refine LeO.bind ?_ (fun _ => ?_))
   | exact ih0 _ _ _ _
   | exact impl_merged_at_impl_blocksIn_1.mono _ _ _
   | exact LeO.none _
   | refine LeO.ite ?_ ?_
   | refine LeO.bind ?_ (fun _ => ?_)
theorem impl_blocksIn.mono : ∀ a0 k, LeO (impl_blocksIn.f k a0) (impl_blocksIn.f (k + 1) a0) := by
 intro a0 k
 have ih0 := impl_blocksIn.mono_l k
 unfold impl_blocksIn.f
 repeat' first
   | (with_reducible exact ih0 _ _ _ _)
   | (with_reducible exact impl_merged_at_impl_blocksIn_1.mono _ _ _)
   | (with_reducible exact LeO.refl _)
   | (with_reducible exact LeO.none _)
   | (with_reducible refine LeO.ite ?_ ?_)
   | (with_reducible refine LeO.bind ?_ (fun _ => ?_))
   | exact ih0 _ _ _ _
   | exact impl_merged_at_impl_blocksIn_1.mono _ _ _
   | exact LeO.none _
   | refine LeO.ite ?_ ?_
   | refine LeO.bind ?_ (fun _ => ?_)
set_option maxHeartbeats 8000000 in
set_option maxRecDepth 100000 in
theorem impl_blocksIn.calls (k : Nat) (A0 : Option Addr) (c0 : Nat) (l0 : List (S78)) (r : List (S61)) (w : World) (hr0 : Kd.C k78 w A0 l0.length l0) (hc0 : l0.length ≤ c0) (h : impl_blocksIn.f k l0 = some r) :
  Calls Try.prog 67 #[.slice A0 l0.length c0] w fun e w' => ∃ v0_ : Value, e = .returned (v0_) ∧ Kd.R k61 61 w' w.heap.size (fun _ => True) v0_ r ∧ Below w.heap.size w w' := by
 have hu78 := Try.underlying78
 have HR0 := Aside0.mk hr0
 have HC0 := Aside0.mk hc0
 clear hr0 hc0
 have HB := Aside0.mk (Below.refl w.heap.size w)
 have H : (if 400 ≤ 281474976710656 then (impl_blocksIn.l0 k l0 (l0.length : Int) 0 (List.replicate 400 false)) else (none)) = some r := h
 clear h
 by_cases c2 : 400 ≤ 281474976710656
 ·
  rw [if_pos c2] at H
  have c2b0 := eq_true c2
  have c2b1 : decide (400 ≤ 281474976710656) = true := decide_eq_true c2
  clear c2
  obtain ⟨y571, hy571⟩ : ∃ y_ : List Bool, y_ = (List.replicate 400 false) := ⟨_, rfl⟩
  replace H : (impl_blocksIn.l0 k l0 (l0.length : Int) 0 y571) = some r := by first | (rw [hy571]; with_reducible exact H) | (have H2_ := (Option.bind_some _ _).symm.trans H; rw [hy571]; with_reducible exact H2_) | (have H2_ := (Option.bind_some _ _).symm.trans H; with_reducible exact H2_) | with_reducible exact H | (rw [hy571]; exact H) | exact H
  have Ny571 := Aside0.mk hy571
  clear hy571
  have H' := Aside0.mk H
  clear H
  go_enter Try.func67, Try.ntmps67
  go_wp2_with (first | ((with_reducible refine gate_dst (N := 6) rfl ?_); refine Kd.R_make Kd.bool _ 4 rfl (N := 6) rfl 72 _ _ rfl 400 rfl rfl Try.underlying72 (.bool false) 1 info4 rfl (by decide) (by omega) false (ok := fun _ => True) (okp := fun _ => True) rfl (fun _ hk => hk) trivial (by omega) (by omega) (Below.refl _ _) (Nat.le_refl _) ?_; intro v572 w3 ho4 hb hg_ hnew_; clear hg_ hnew_; (first | rw [← Ny571.out] at ho4 | (simp only [Int.reduceToNat] at ho4; rw [← Ny571.out] at ho4)); have n0_ := Aside0.mk (Kd.R_lower ho4 (below_size (bs HB))); have n1_ := Aside0.mk (below_step (bs HB) hb); clear HB; have HO573 := n0_; have HB := n1_; clear n0_ n1_; clear hb ho4) | ((with_reducible refine gate_dst (N := 3) rfl ?_); refine box_event ?hg (N := 3) ?hd (cs := #[.slice none 0 0]) (t := 72) ?hr ?_; (case hd => rfl); (case hg => rfl); (case hr => first | (go_simp; done) | (go_simp; rfl)); intro gb574 hg w5 hbox hb; have n0_ := Aside0.mk (Kd.R_below (rr HO573.out) hb); have n1_ := Aside0.mk (below_step (bs HB) hb); have n2_ := Aside0.mk (hbox); have n3_ := Aside0.mk ((by rw [hg]; exact (below_size (bs HB)) : w.heap.size ≤ gb574)); have n4_ := Aside0.mk ((by rw [hg]; exact (below_size (bs HB)) : w.heap.size ≤ gb574)); clear HO573; clear HB; have HO573 := n0_; have HB := n1_; have BK574 := n2_; have GW574 := n3_; have GE574 := n4_; clear n0_ n1_ n2_ n3_ n4_; clear hb hbox hg; obtain ⟨Ao6, co6, eo6⟩ := Kd.R_slice HO573.out; subst eo6; have hcz7_0 : w5.cell? ⟨gb574, 0, none⟩ = some (.slice none 0 0) := (blk_cell BK574.out 0).trans rfl; have hfz7_0 := blk_frozen BK574.out 0))
  go_loopg [9] k (fun kq v9 w' => ∃ (x9_1 : Int) (x575000_1 : List Bool) (u575000 : Value), v9 = .int .i64 x9_1 ∧ Aside0 (impl_blocksIn.l0 kq l0 (l0.length : Int) x9_1 x575000_1 = some r) ∧ Aside0 (kq ≤ k) ∧ Aside0 (Kd.R Kd.bool 4 w' w.heap.size (fun _ => True) u575000 x575000_1) ∧ Aside0 (w'.heap[gb574]? = some (.cells #[u575000] 72 (0, 0))) ∧ Aside0 (Below w.heap.size w w'))
  case atStart => exact ⟨(0), (y571), (.slice Ao6 y571.length co6), (by first | rfl | (simp; done) | (simp [*]; done)), H', ⟨Nat.le_refl _⟩, ⟨by (with_reducible repeat (first | apply Kd.R_alloc | apply Kd.R_drewN | apply Kd.R_drew)); exact Kd.R_mono (Kd.R_far (p := ⟨gb574, 0, none⟩) (Kd.R_types HO573.out BK574.out (by decide)) (fun _ hk => hk.2) (.slice Ao6 y571.length co6)) (fun _ hk => trivial)⟩, ⟨by (with_reducible repeat (first | refine blk_drewN ?_ _ | refine blk_drew ?_ | refine blk_alloc ?_ _)); refine blk_put (cs := #[.slice none 0 0]) ?_ 0 _ rfl; (with_reducible repeat (first | refine blk_drewN ?_ _ | refine blk_drew ?_ | refine blk_alloc ?_ _)); exact BK574.out⟩, ⟨bs1 HB GE574⟩⟩
  case round =>
   clear H'
   try clear c2
   try clear c2b0
   try clear c2b1
   try clear p2
   try clear c6
   try clear hcz7_0
   try clear hfz7_0
   obtain ⟨x9_1, x575000_1, u575000, rfl, HA, HK1, HO_575000, BK574, HB⟩ := hrel
   cases gk with
   | zero => exact absurd HA.out (by simp [impl_blocksIn.l0])
   | succ k1 =>
    have H := HA.out
    clear HA
    simp only [impl_blocksIn.l0] at H
    by_cases c8 : x9_1 < (l0.length : Int)
    ·
     rw [if_pos c8] at H
     have c8b0 : decide (x9_1 < (l0.length : Int)) = true := decide_eq_true c8
     clear c8
     by_cases c9 : 0 ≤ x9_1
     ·
      rw [if_pos c9] at H
      have c9b0 : decide (0 ≤ x9_1) = true := decide_eq_true c9
      clear c9
      by_cases c10 : x9_1 < (l0.length : Int)
      ·
       rw [if_pos c10] at H
       have c10b0 : decide (x9_1 < (l0.length : Int)) = true := decide_eq_true c10
       clear c10
       obtain ⟨bq11, hbq11⟩ : ∃ b_ : Bool, b_ = ((rd_T78 l0 x9_1).f0) := ⟨_, rfl⟩
       replace H : (if bq11 = true then (if 0 ≤ ((rd_T78 l0 x9_1).f1) then (if ((rd_T78 l0 x9_1).f1) < (x575000_1.length : Int) then (impl_blocksIn.l0 k1 l0 (l0.length : Int) (wrap64 (x9_1 + 1)) (x575000_1.set (((rd_T78 l0 x9_1).f1) : Int).toNat true)) else (none)) else (none)) else (impl_blocksIn.l0 k1 l0 (l0.length : Int) (wrap64 (x9_1 + 1)) x575000_1)) = some r := by rw [← hbq11] at H; exact H
       have Nbq11 := Aside0.mk hbq11
       clear hbq11
       by_cases c12 : bq11 = true
       ·
        subst c12
        rw [if_pos rfl] at H
        by_cases c13 : 0 ≤ ((rd_T78 l0 x9_1).f1)
        ·
         rw [if_pos c13] at H
         have c13b0 : decide (0 ≤ ((rd_T78 l0 x9_1).f1)) = true := decide_eq_true c13
         clear c13
         by_cases c14 : ((rd_T78 l0 x9_1).f1) < (x575000_1.length : Int)
         ·
          rw [if_pos c14] at H
          have c14b0 : decide (((rd_T78 l0 x9_1).f1) < (x575000_1.length : Int)) = true := decide_eq_true c14
          clear c14
          obtain ⟨y577, hy577⟩ : ∃ y_ : List Bool, y_ = (x575000_1.set (((rd_T78 l0 x9_1).f1) : Int).toNat true) := ⟨_, rfl⟩
          replace H : (impl_blocksIn.l0 k1 l0 (l0.length : Int) (wrap64 (x9_1 + 1)) y577) = some r := by first | (rw [hy577]; with_reducible exact H) | (have H2_ := (Option.bind_some _ _).symm.trans H; rw [hy577]; with_reducible exact H2_) | (have H2_ := (Option.bind_some _ _).symm.trans H; with_reducible exact H2_) | with_reducible exact H | (rw [hy577]; exact H) | exact H
          have Ny577 := Aside0.mk hy577
          clear hy577
          have H' := Aside0.mk H
          clear H
          have p575 : 0 ≤ (x9_1 : Int) := of_decide_eq_true (by first | (with_reducible assumption) | assumption)
          have q575 : x9_1 < (l0.length : Int) := of_decide_eq_true (by first | (with_reducible assumption) | assumption)
          obtain ⟨ad575, e575, hx575_0, hx575_1, hx575_2⟩ := at_T78 HR0.out x9_1 p575 q575
          (try rw [← Nbq11.out] at hx575_0)
          (try rw [← Nbq11.out] at hx575_2)
          cases e575
          replace hx575_0 := (HB.out.cell (World.block_lt_of_cell? w _ hx575_0)).trans hx575_0
          replace hx575_1 := (HB.out.cell (World.block_lt_of_cell? w _ hx575_1)).trans hx575_1
          replace hx575_2 := (HB.out.cell (World.block_lt_of_cell? w _ hx575_2)).trans hx575_2
          replace p575 := eq_true p575
          replace q575 := eq_true q575
          go_wp2_with (first | ((with_reducible refine gate_dst (N := 5) rfl ?_); refine box_event ?hg (N := 5) ?hd (cs := #[.bool false, .int .i64 0, .bool false]) (t := 78) ?hr ?_; (case hd => rfl); (case hg => rfl); (case hr => first | (go_simp; done) | (go_simp; rfl)); intro gb576 hg w16 hbox hb; have n0_ := Aside0.mk (Kd.R_below (rr HO_575000.out) hb); have n1_ := Aside0.mk (bb BK574 hb); have n2_ := Aside0.mk (below_step (bs1 HB GE574) hb); have n3_ := Aside0.mk (hbox); have n4_ := Aside0.mk ((by rw [hg]; exact (below_size (bs1 HB GE574)) : w.heap.size ≤ gb576)); have n5_ := Aside0.mk ((by rw [hg]; exact (below_size (bs1 HB GE574)) : w.heap.size ≤ gb576)); have n6_ := Aside0.mk ((bn BK574 hg : gb574 ≠ gb576)); have n7_ := Aside0.mk ((bm BK574 hg : gb576 ≠ gb574)); clear HO_575000; clear BK574; clear HB; have HO_575000 := n0_; have BK574 := n1_; have HB := n2_; have BK576 := n3_; have GW576 := n4_; have GE576 := n5_; have NB574_576 := n6_; have NB576_574 := n7_; clear n0_ n1_ n2_ n3_ n4_ n5_ n6_ n7_; clear hb hbox hg; have hnb17 := NB576_574.out; have hnc17 := NB574_576.out; have hcz18_0 : w16.cell? ⟨gb576, 0, none⟩ = some (.bool false) := (blk_cell BK576.out 0).trans rfl; have hcz18_1 : w16.cell? ⟨gb576, 1, none⟩ = some (.int .i64 0) := (blk_cell BK576.out 1).trans rfl; have hcz18_2 : w16.cell? ⟨gb576, 2, none⟩ = some (.bool false) := (blk_cell BK576.out 2).trans rfl; have hfz18_0 := blk_frozen BK576.out 0; have hfz18_1 := blk_frozen BK576.out 1; have hfz18_2 := blk_frozen BK576.out 2) | ((with_reducible refine gate_store (t := 78) (p := 5) rfl ?_); refine store_event (t := 78) (p := 5) (v := ?vo_w19) (w1 := (((w16.setCell ⟨gb576, 0, none⟩ (.bool true)).setCell ⟨gb576, 1, none⟩ (.int .i64 ((rd_T78 l0 x9_1).f1))).setCell ⟨gb576, 2, none⟩ (.bool ((rd_T78 l0 x9_1).f2)))) ?hg ?ho ?hn ?hr ?_; (case ho => rfl); (case hg => rfl); (case hn => rfl); (case hr => first | (go_simp; done) | (go_simp; rfl)); intro w19 hw; have n0_ : Aside0 (Kd.R Kd.bool 4 w19 w.heap.size (fun _ => True) u575000 x575000_1) := ⟨(by rw [hw]; exact (by (with_reducible repeat (first | apply Kd.R_alloc | apply Kd.R_drewN | apply Kd.R_drew)); exact Kd.R_mono (Kd.R_far (p := ⟨gb576, 2, none⟩) (Kd.R_far (p := ⟨gb576, 1, none⟩) (Kd.R_far (p := ⟨gb576, 0, none⟩) (Kd.R_types HO_575000.out BK576.out (by decide)) (fun _ hk => hk.2) (.bool true)) (fun _ hk => hk.2) (.int .i64 ((rd_T78 l0 x9_1).f1))) (fun _ hk => hk.2) (.bool ((rd_T78 l0 x9_1).f2))) (fun _ hk => trivial)))⟩; have n1_ : Aside0 (w19.heap[gb574]? = some (.cells #[u575000] 72 (0, 0))) := ⟨(by rw [hw]; exact (bf BK574 NB574_576))⟩; have n2_ : Aside0 (w19.heap[gb576]? = some (.cells #[.bool true, .int .i64 ((rd_T78 l0 x9_1).f1), .bool ((rd_T78 l0 x9_1).f2)] 78 (0, 0))) := ⟨(by rw [hw]; exact (by (with_reducible repeat (first | refine blk_drewN ?_ _ | refine blk_drew ?_ | refine blk_alloc ?_ _)); refine blk_put (cs := #[.bool true, .int .i64 ((rd_T78 l0 x9_1).f1), .bool false]) ?_ 2 _ rfl; (with_reducible repeat (first | refine blk_drewN ?_ _ | refine blk_drew ?_ | refine blk_alloc ?_ _)); refine blk_put (cs := #[.bool true, .int .i64 0, .bool false]) ?_ 1 _ rfl; (with_reducible repeat (first | refine blk_drewN ?_ _ | refine blk_drew ?_ | refine blk_alloc ?_ _)); refine blk_put (cs := #[.bool false, .int .i64 0, .bool false]) ?_ 0 _ rfl; (with_reducible repeat (first | refine blk_drewN ?_ _ | refine blk_drew ?_ | refine blk_alloc ?_ _)); exact BK576.out))⟩; have n3_ : Aside0 (Below w.heap.size w w19) := ⟨(by rw [hw]; exact (bs2 HB GE574 GE576))⟩; clear hw; clear HO_575000; clear BK574; clear BK576; clear HB; have HO_575000 := n0_; have BK574 := n1_; have BK576 := n2_; have HB := n3_; clear n0_ n1_ n2_ n3_; have hcz20_0 : w19.cell? ⟨gb576, 0, none⟩ = some (.bool true) := (blk_cell BK576.out 0).trans rfl; have hcz20_1 : w19.cell? ⟨gb576, 1, none⟩ = some (.int .i64 ((rd_T78 l0 x9_1).f1)) := (blk_cell BK576.out 1).trans rfl; have hcz20_2 : w19.cell? ⟨gb576, 2, none⟩ = some (.bool ((rd_T78 l0 x9_1).f2)) := (blk_cell BK576.out 2).trans rfl; have hfz20_0 := blk_frozen BK576.out 0; have hfz20_1 := blk_frozen BK576.out 1; have hfz20_2 := blk_frozen BK576.out 2; have hcz21_0 : w19.cell? ⟨gb574, 0, none⟩ = some (u575000) := (blk_cell BK574.out 0).trans rfl; have hfz21_0 := blk_frozen BK574.out 0; have p15 : 0 ≤ (((rd_T78 l0 x9_1).f1) : Int) := of_decide_eq_true (by first | (with_reducible assumption) | assumption); have q15 : (((rd_T78 l0 x9_1).f1) : Int) < ((x575000_1.length : Int) : Int) := of_decide_eq_true (by first | (with_reducible assumption) | assumption); obtain ⟨go15, co15, eo15, gb15, gl15, cl15, HG15⟩ := Kd.R_form HO_575000.out (by omega); (first | cases eo15 | (injection eo15 with ea_ en_ ec_; (first | subst ea_ | (injection ea_ with ea_; subst ea_)); subst ec_; clear en_)); have GB15 := Aside0.mk gb15; have GG15 := Aside0.mk HG15; clear gb15 gl15 HG15; obtain ⟨hx15_0, hf15_0⟩ := Kd.R_celln false HO_575000.out (((rd_T78 l0 x9_1).f1) : Int) p15 q15; replace p15 := eq_true p15; replace q15 := eq_true q15; obtain ⟨hy22_, hz22_⟩ := Kd.R_celln false HO_575000.out (((rd_T78 l0 x9_1).f1) : Int) (of_decide_eq_true (by first | (with_reducible assumption) | assumption)) (of_decide_eq_true (by first | (with_reducible assumption) | assumption)); have HP22 := Kd.R_putg HO_575000.out (((rd_T78 l0 x9_1).f1) : Int) true) | ((with_reducible refine gate_store (t := 4) (p := 18) rfl ?_); refine store_event (t := 4) (p := 18) (v := ?vo_w23) (w1 := (w19.setCell ⟨go15, (((rd_T78 l0 x9_1).f1) : Int).toNat, none⟩ (.bool true))) ?hg ?ho ?hn ?hr ?_; (case ho => rfl); (case hg => rfl); (case hn => rfl); (case hr => first | (go_simp; done) | (go_simp; rfl)); intro w23 hw; have hg : w19.grownBy w23 (some go15) := (by rw [hw]; exact HP22.2); have hp_ : Kd.R Kd.bool 4 w23 w.heap.size (fun _ => True) (.slice (some ⟨go15, 0, none⟩) x575000_1.length co15) y577 := (by rw [hw, Ny577.out]; exact HP22.1); clear HP22; have n0_ := Aside0.mk (hp_); have n1_ := Aside0.mk (blk_grown (g := gb574) (o := .cells #[.slice (some ⟨go15, 0, none⟩) x575000_1.length co15] 72 (0, 0)) (bk BK574) hg (Kd.R_ne HO_575000.out BK574.out (by decide))); have n2_ := Aside0.mk (blk_grown (g := gb576) (o := .cells #[.bool true, .int .i64 ((rd_T78 l0 x9_1).f1), .bool ((rd_T78 l0 x9_1).f2)] 78 (0, 0)) (bk BK576) hg (Kd.R_ne HO_575000.out BK576.out (by decide))); have n3_ := Aside0.mk ((by rw [hw]; exact below_set (HB.out) GB15.out : Below w.heap.size w w23)); clear HO_575000; clear BK574; clear BK576; clear HB; have HO_575000 := n0_; have BK574 := n1_; have BK576 := n2_; have HB := n3_; clear n0_ n1_ n2_ n3_; clear hg hw hp_))
          go_roundg k1
          case measure => have := HK1.out; omega
          case rel => exact ⟨(wrap64 (x9_1 + 1)), (y577), (.slice (some ⟨go15, 0, none⟩) x575000_1.length co15), (by first | rfl | (simp; done) | (simp [*]; done)), H', ⟨by have := HK1.out; omega⟩, ⟨rr HO_575000.out⟩, ⟨bk BK574⟩, ⟨bs2 HB GE574 GE576⟩⟩
         ·
          rw [if_neg c14] at H
          exact absurd H (by simp)
        ·
         rw [if_neg c13] at H
         exact absurd H (by simp)
       ·
        replace c12 := Bool.eq_false_iff.mpr c12
        subst c12
        rw [if_neg (show ¬ (false = true) by decide)] at H
        have H' := Aside0.mk H
        clear H
        have p575 : 0 ≤ (x9_1 : Int) := of_decide_eq_true (by first | (with_reducible assumption) | assumption)
        have q575 : x9_1 < (l0.length : Int) := of_decide_eq_true (by first | (with_reducible assumption) | assumption)
        obtain ⟨ad575, e575, hx575_0, hx575_1, hx575_2⟩ := at_T78 HR0.out x9_1 p575 q575
        (try rw [← Nbq11.out] at hx575_0)
        (try rw [← Nbq11.out] at hx575_2)
        cases e575
        replace hx575_0 := (HB.out.cell (World.block_lt_of_cell? w _ hx575_0)).trans hx575_0
        replace hx575_1 := (HB.out.cell (World.block_lt_of_cell? w _ hx575_1)).trans hx575_1
        replace hx575_2 := (HB.out.cell (World.block_lt_of_cell? w _ hx575_2)).trans hx575_2
        replace p575 := eq_true p575
        replace q575 := eq_true q575
        go_wp2_with (first | ((with_reducible refine gate_dst (N := 5) rfl ?_); refine box_event ?hg (N := 5) ?hd (cs := #[.bool false, .int .i64 0, .bool false]) (t := 78) ?hr ?_; (case hd => rfl); (case hg => rfl); (case hr => first | (go_simp; done) | (go_simp; rfl)); intro gb576 hg w24 hbox hb; have n0_ := Aside0.mk (Kd.R_below (rr HO_575000.out) hb); have n1_ := Aside0.mk (bb BK574 hb); have n2_ := Aside0.mk (below_step (bs1 HB GE574) hb); have n3_ := Aside0.mk (hbox); have n4_ := Aside0.mk ((by rw [hg]; exact (below_size (bs1 HB GE574)) : w.heap.size ≤ gb576)); have n5_ := Aside0.mk ((by rw [hg]; exact (below_size (bs1 HB GE574)) : w.heap.size ≤ gb576)); have n6_ := Aside0.mk ((bn BK574 hg : gb574 ≠ gb576)); have n7_ := Aside0.mk ((bm BK574 hg : gb576 ≠ gb574)); clear HO_575000; clear BK574; clear HB; have HO_575000 := n0_; have BK574 := n1_; have HB := n2_; have BK576 := n3_; have GW576 := n4_; have GE576 := n5_; have NB574_576 := n6_; have NB576_574 := n7_; clear n0_ n1_ n2_ n3_ n4_ n5_ n6_ n7_; clear hb hbox hg; have hnb25 := NB576_574.out; have hnc25 := NB574_576.out; have hcz26_0 : w24.cell? ⟨gb576, 0, none⟩ = some (.bool false) := (blk_cell BK576.out 0).trans rfl; have hcz26_1 : w24.cell? ⟨gb576, 1, none⟩ = some (.int .i64 0) := (blk_cell BK576.out 1).trans rfl; have hcz26_2 : w24.cell? ⟨gb576, 2, none⟩ = some (.bool false) := (blk_cell BK576.out 2).trans rfl; have hfz26_0 := blk_frozen BK576.out 0; have hfz26_1 := blk_frozen BK576.out 1; have hfz26_2 := blk_frozen BK576.out 2))
        go_roundg k1
        case measure => have := HK1.out; omega
        case rel => exact ⟨(wrap64 (x9_1 + 1)), (x575000_1), (u575000), (by first | rfl | (simp; done) | (simp [*]; done)), H', ⟨by have := HK1.out; omega⟩, ⟨by (with_reducible repeat (first | apply Kd.R_alloc | apply Kd.R_drewN | apply Kd.R_drew)); exact Kd.R_mono (Kd.R_far (p := ⟨gb576, 2, none⟩) (Kd.R_far (p := ⟨gb576, 1, none⟩) (Kd.R_far (p := ⟨gb576, 0, none⟩) (Kd.R_types HO_575000.out BK576.out (by decide)) (fun _ hk => hk.2) (.bool false)) (fun _ hk => hk.2) (.int .i64 ((rd_T78 l0 x9_1).f1))) (fun _ hk => hk.2) (.bool ((rd_T78 l0 x9_1).f2))) (fun _ hk => trivial)⟩, ⟨bf BK574 NB574_576⟩, ⟨bs2 HB GE574 GE576⟩⟩
      ·
       rw [if_neg c10] at H
       exact absurd H (by simp)
     ·
      rw [if_neg c9] at H
      exact absurd H (by simp)
    ·
     rw [if_neg c8] at H
     have c8b0 : decide (x9_1 < (l0.length : Int)) = false := decide_eq_false c8
     clear c8
     replace H := Option.bind_eq_some_iff.mp H
     obtain ⟨t578, A270, H⟩ := H
     replace H : (some t578) = some r := H
     have A27 := Aside0.mk A270
     clear A270
     obtain rfl := Option.some.inj H
     obtain ⟨Ao28, co28, eo28⟩ := Kd.R_slice HO_575000.out
     subst eo28
     go_wp2_with (first | ((with_reducible refine gate_callee (f := 58) rfl ?_); refine goesL_ (some 21) rfl rfl Try.func58 (by kernel_rfl) rfl #[.int .i64 400, .func (.func 77) #[] #[.pointer (some ⟨gb574, 0, none⟩)]] rfl (by (try simp only [List.map_toArray, List.map_cons, List.map_nil]); first | done | rfl | (simp only [List.length_drop, List.length_take]; rfl)) ?_; (with_reducible refine (impl_merged_at_impl_blocksIn_1.calls k1 400 gb574 Ao28 co28 x575000_1 t578 _ ?side1 ?side2 ?side3 A27.out).mono ?_); (case side1 => exact rc0 HO_575000); (case side2 => exact (Kd.R_reads' HO_575000.out).2.1); (case side3 => (with_reducible repeat (first | refine blk_drewN ?_ _ | refine blk_drew ?_ | refine blk_alloc ?_ _)); exact BK574.out); rintro e w29 ⟨v579, rfl, ho0, hb⟩; refine ⟨_, rfl, ?_⟩; have n0_ := Aside0.mk (Kd.R_below (rr HO_575000.out) hb); have n1_ := Aside0.mk (Kd.R_lower ho0 (below_size (bs1 HB GE574))); have n2_ := Aside0.mk (bb BK574 hb); have n3_ := Aside0.mk (below_step (bs1 HB GE574) hb); clear HO_575000; clear BK574; clear HB; have HO_575000 := n0_; have HO580 := n1_; have BK574 := n2_; have HB := n3_; clear n0_ n1_ n2_ n3_; (try clear hb); (try clear hb2); (try clear hk); (try clear hi); (try clear ho0)))
     go_ret
     exact ⟨_, by first | rfl | (simp [errW_none, errW_some] <;> rfl) | (simp [*, errW_none, errW_some] <;> rfl), by (with_reducible repeat (first | apply Kd.R_alloc | apply Kd.R_drewN | apply Kd.R_drew)); exact HO580.out, bs1 HB GE574⟩
 ·
  rw [if_neg c2] at H
  exact absurd H (by simp)

end Go.Proofs.Ytojdlcbmbpgplaa.G
