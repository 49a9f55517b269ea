-- Printed by a program of this session (drive.py, by way of the kit's print). Not trusted: Lean checks it.
import Derived.Test.YtcdkgenfggdpaaaG0
import Derived.Test.YtcdkgenfggdpaaaG2
import Derived.Test.YtcdkgenfggdpaaaG6
import Derived.Test.YtcdkgenfggdpaaaG7
import Derived.Test.YtcdkgenfggdpaaaG9
import Derived.Test.YtcdkgenfggdpaaaG11
namespace Go.Proofs.Ytcdkgenfggdpaaa.G
open Go.RowKit Go.Proofs.YtcdkgenfggdpaaaW.PrintWords Go.Proofs.YtcdkgenfggdpaaaW.PrintLast Go.Proofs.YtcdkgenfggdpaaaW.PrintMore
attribute [local go_sem] max2_int min2_int max_two min_two max_three min_three max_four min_four   -- for this text's walks alone
set_option linter.unusedVariables false
set_option linter.unusedSimpArgs false

/-! ### spec_l1Kept: function 118 -/
def spec_l1Kept.l0 : Nat → List Bool → List (S72) → List (S72) → Int → Int → Option ((List (S72)))
 | 0, _, _, _, _, _ => none
 | k + 1, x1, x5, x8, x9, x10 => if x10 < x9 then (if 0 ≤ x10 then (if x10 < (x8.length : Int) then (if x10 < (x1.length : Int) then (if rdOf false x1 x10 = true then (if x5.length < 5864062014805 then (spec_l1Kept.l0 k x1 (x5 ++ [(⟨(rd_T72 x8 x10).f0, (rd_T72 x8 x10).f1⟩ : S72)]) x8 x9 (wrap64 (x10 + 1))) else (none)) else (spec_l1Kept.l0 k x1 x5 x8 x9 (wrap64 (x10 + 1)))) else (none)) else (none)) else (none)) else (some x5)
def spec_l1Kept.f (k : Nat) (l0 : List (S72)) (l1 : List Bool) : Option ((List (S72))) := spec_l1Kept.l0 k l1 ([] : List (S72)) l0 (l0.length : Int) 0
theorem spec_l1Kept.mono_l : ∀ k, (∀ y0 y1 y2 y3 y4, LeO (spec_l1Kept.l0 k y0 y1 y2 y3 y4) (spec_l1Kept.l0 (k + 1) y0 y1 y2 y3 y4))
 | 0 => fun _ _ _ _ _ r h => by simp [spec_l1Kept.l0] at h
 | k + 1 => by
  have ih0 := spec_l1Kept.mono_l k
  ·
   intro y0 y1 y2 y3 y4
   unfold spec_l1Kept.l0
   repeat' first
   | (with_reducible exact ih0 _ _ _ _ _)
   | (with_reducible exact LeO.refl _)
   | (with_reducible exact LeO.none _)
   | (with_reducible refine LeO.ite ?_ ?_)
   | (with_reducible refine LeO.bind ?_ (fun _ => ?_))
   | exact ih0 _ _ _ _ _
   | exact LeO.none _
   | refine LeO.ite ?_ ?_
   | refine LeO.bind ?_ (fun _ => ?_)
theorem spec_l1Kept.mono : ∀ a0 a1 k, LeO (spec_l1Kept.f k a0 a1) (spec_l1Kept.f (k + 1) a0 a1) := by
 intro a0 a1 k
 have ih0 := spec_l1Kept.mono_l k
 unfold spec_l1Kept.f
 repeat' first
   | (with_reducible exact ih0 _ _ _ _ _)
   | (with_reducible exact LeO.refl _)
   | (with_reducible exact LeO.none _)
   | (with_reducible refine LeO.ite ?_ ?_)
   | (with_reducible refine LeO.bind ?_ (fun _ => ?_))
   | exact ih0 _ _ _ _ _
   | exact LeO.none _
   | refine LeO.ite ?_ ?_
   | refine LeO.bind ?_ (fun _ => ?_)
set_option maxHeartbeats 8000000 in
set_option maxRecDepth 100000 in
theorem spec_l1Kept.calls (k : Nat) (A0 : Option Addr) (c0 : Nat) (l0 : List (S72)) (A1 : Option Addr) (c1 : Nat) (l1 : List Bool) (r : List (S72)) (w : World) (hr0 : Kd.C k72 w A0 l0.length l0) (hc0 : l0.length ≤ c0) (hr1 : Kd.C Kd.bool w A1 l1.length l1) (hc1 : l1.length ≤ c1) (h : spec_l1Kept.f k l0 l1 = some r) :
  Calls Try.prog 118 #[.slice A0 l0.length c0, .slice A1 l1.length c1] w fun e w' => ∃ v0_ : Value, e = .returned (v0_) ∧ Kd.R k72 72 w' w.heap.size (fun _ => True) v0_ r ∧ Below w.heap.size w w' := by
 have hu72 := Try.underlying72
 have HR0 := Aside0.mk hr0
 have HC0 := Aside0.mk hc0
 clear hr0 hc0
 have HR1 := Aside0.mk hr1
 have HC1 := Aside0.mk hc1
 clear hr1 hc1
 have HB := Aside0.mk (Below.refl w.heap.size w)
 have H : (spec_l1Kept.l0 k l1 ([] : List (S72)) l0 (l0.length : Int) 0) = some r := h
 clear h
 have H' := Aside0.mk H
 clear H
 go_enter Try.func118, Try.ntmps118
 go_wp2
 go_loopg [5, 10] k (fun kq v5 v10 w' => ∃ (x5_1 : List (S72)) (x10_1 : Int), v10 = .int .i64 x10_1 ∧ Aside0 (spec_l1Kept.l0 kq l1 x5_1 l0 (l0.length : Int) x10_1 = some r) ∧ Aside0 (kq ≤ k) ∧ Aside0 (Kd.R k72 72 w' w.heap.size (fun _ => True) v5 x5_1) ∧ Aside0 (Below w.heap.size w w'))
 case atStart => exact ⟨(([] : List (S72))), (0), (by first | rfl | (simp; done) | (simp [*]; done)), H', ⟨Nat.le_refl _⟩, ⟨by first | exact Kd.R_nil _ _ _ _ _ | exact Kd.N_nil _ _ _ _ _ | exact Kd.V_nil _ _ _ _ _ | exact Kd.Q_nil _ _ _ _ _ | exact Kd.S_nil _ _ _ _ _⟩, ⟨bs HB⟩⟩
 case round =>
  clear H'
  try clear c1
  try clear p2
  obtain ⟨x5_1, x10_1, rfl, HA, HK1, HO_5, HB⟩ := hrel
  cases gk with
  | zero => exact absurd HA.out (by simp [spec_l1Kept.l0])
  | succ k1 =>
   have H := HA.out
   clear HA
   simp only [spec_l1Kept.l0] at H
   by_cases c3 : x10_1 < (l0.length : Int)
   ·
    rw [if_pos c3] at H
    have c3b0 : decide (x10_1 < (l0.length : Int)) = true := decide_eq_true c3
    clear c3
    by_cases c4 : 0 ≤ x10_1
    ·
     rw [if_pos c4] at H
     have c4b0 : decide (0 ≤ x10_1) = true := decide_eq_true c4
     clear c4
     by_cases c5 : x10_1 < (l0.length : Int)
     ·
      rw [if_pos c5] at H
      have c5b0 : decide (x10_1 < (l0.length : Int)) = true := decide_eq_true c5
      clear c5
      by_cases c6 : x10_1 < (l1.length : Int)
      ·
       rw [if_pos c6] at H
       have c6b0 : decide (x10_1 < (l1.length : Int)) = true := decide_eq_true c6
       clear c6
       obtain ⟨bq7, hbq7⟩ : ∃ b_ : Bool, b_ = (rdOf false l1 x10_1) := ⟨_, rfl⟩
       replace H : (if bq7 = true then (if x5_1.length < 5864062014805 then (spec_l1Kept.l0 k1 l1 (x5_1 ++ [(⟨(rd_T72 l0 x10_1).f0, (rd_T72 l0 x10_1).f1⟩ : S72)]) l0 (l0.length : Int) (wrap64 (x10_1 + 1))) else (none)) else (spec_l1Kept.l0 k1 l1 x5_1 l0 (l0.length : Int) (wrap64 (x10_1 + 1)))) = some r := by rw [← hbq7] at H; exact H
       have Nbq7 := Aside0.mk hbq7
       clear hbq7
       by_cases c8 : bq7 = true
       ·
        subst c8
        rw [if_pos rfl] at H
        by_cases c9 : x5_1.length < 5864062014805
        ·
         rw [if_pos c9] at H
         have LMc9 := Aside0.mk c9
         clear c9
         obtain ⟨y1213, hy1213⟩ : ∃ y_ : List (S72), y_ = (x5_1 ++ [(⟨(rd_T72 l0 x10_1).f0, (rd_T72 l0 x10_1).f1⟩ : S72)]) := ⟨_, rfl⟩
         replace H : (spec_l1Kept.l0 k1 l1 y1213 l0 (l0.length : Int) (wrap64 (x10_1 + 1))) = some r := by first | (rw [hy1213]; with_reducible exact H) | (have H2_ := (Option.bind_some _ _).symm.trans H; rw [hy1213]; with_reducible exact H2_) | (have H2_ := (Option.bind_some _ _).symm.trans H; with_reducible exact H2_) | with_reducible exact H | (rw [hy1213]; exact H) | exact H
         have Ny1213 := Aside0.mk hy1213
         clear hy1213
         have H' := Aside0.mk H
         clear H
         have p1210 : 0 ≤ (x10_1 : Int) := of_decide_eq_true (by first | (with_reducible assumption) | assumption)
         have q1210 : x10_1 < (l0.length : Int) := of_decide_eq_true (by first | (with_reducible assumption) | assumption)
         obtain ⟨ad1210, e1210, hx1210_0, hx1210_1⟩ := at_T72 HR0.out x10_1 p1210 q1210
         cases e1210
         replace hx1210_0 := (HB.out.cell (World.block_lt_of_cell? w _ hx1210_0)).trans hx1210_0
         replace hx1210_1 := (HB.out.cell (World.block_lt_of_cell? w _ hx1210_1)).trans hx1210_1
         replace p1210 := eq_true p1210
         replace q1210 := eq_true q1210
         go_wp2_with (first | ((with_reducible refine gate_dst (N := 7) rfl ?_); refine box_event ?hg (N := 7) ?hd (cs := #[.int .i64 0, .string (⟨#[]⟩ : ByteArray)]) (t := 72) ?hr ?_; (case hd => rfl); (case hg => rfl); (case hr => first | (go_simp; done) | (go_simp; rfl)); intro gb1211 hg w10 hbox hb; replace HO_5 := Aside0.mk (Kd.R_below (Kd.R_elderB (rr HO_5.out) gb1211 (Nat.le_of_eq hg.symm)) hb); have BK1211 := Aside0.mk (hbox); have GW1211 := Aside0.mk ((by rw [hg]; exact (below_size (bs HB)) : w.heap.size ≤ gb1211)); have GE1211 := Aside0.mk ((by rw [hg]; exact (below_size (bs HB)) : w.heap.size ≤ gb1211)); replace HB := Aside0.mk (below_step (bs HB) hb); clear hb hbox hg; obtain ⟨hcz11_0, hcz11_1⟩ := cz2 BK1211; obtain ⟨hfz11_0, hfz11_1⟩ := fz2 BK1211; have p1212 : 0 ≤ (x10_1 : Int) := of_decide_eq_true (by first | (with_reducible assumption) | assumption); have q1212 : x10_1 < (l1.length : Int) := of_decide_eq_true (by first | (with_reducible assumption) | assumption); obtain ⟨ad1212, e1212, hx1212_0⟩ := Kd.at_bool HR1.out x10_1 p1212 q1212; (try rw [← Nbq7.out] at hx1212_0); cases e1212; have hn1212_0 : ad1212.block ≠ gb1211 := Nat.ne_of_lt (Nat.lt_of_lt_of_le (by have := World.block_lt_of_cell? _ _ hx1212_0; first | rwa [add_block] at this | exact this) GW1211.out); have hn1212_1 : ad1212.block ≠ gb1211 := Nat.ne_of_lt (Nat.lt_of_lt_of_le (by have := World.block_lt_of_cell? _ _ hx1212_0; first | rwa [add_block] at this | exact this) GW1211.out); replace hx1212_0 := (HB.out.cell (World.block_lt_of_cell? w _ hx1212_0)).trans hx1212_0; replace hx1212_0 := (cell_far (p := ⟨gb1211, 0, none⟩) (by first | (rw [add_block]; exact hn1212_0) | (show (Addr.add _ _).block ≠ _; rw [add_block]; exact hn1212_0) | exact hn1212_0) (.int .i64 ((rd_T72 l0 x10_1).f0))).trans hx1212_0; replace hx1212_0 := (cell_far (p := ⟨gb1211, 1, none⟩) (by first | (rw [add_block]; exact hn1212_1) | (show (Addr.add _ _).block ≠ _; rw [add_block]; exact hn1212_1) | exact hn1212_1) (.string ((rd_T72 l0 x10_1).f1))).trans hx1212_0; clear hn1212_0; clear hn1212_1; replace p1212 := eq_true p1212; replace q1212 := eq_true q1212) | ((with_reducible refine gate_builtin (b := .append) (xs := #[.tmp 19, .tmp 21]) rfl ?_); at_builtin; refine Kd.R_append k72 (w0 := w) w.heap.size rfl (.tmp 19) (.tmp 21) 26 72 (.agg #[(.int .i64 0), (.string ⟨#[]⟩)]) 24 rfl Try.underlying26 info72 rfl (by decide) (by omega) u5 x5_1 (⟨(rd_T72 l0 x10_1).f0, (rd_T72 l0 x10_1).f1⟩ : S72) [.int .i64 ((rd_T72 l0 x10_1).f0), .string ((rd_T72 l0 x10_1).f1)] (fun k_ => k_ ≠ gb1211) (fun _ => False) rfl (by first | (go_simp; done) | (go_simp; rfl)) ?aP (fun _ hk => hk.elim) ?aF ?aO ?aB ?aS ?aL ?_; (case aP => exact k72_mkM _ _ _ (⟨(rd_T72 l0 x10_1).f0, (rd_T72 l0 x10_1).f1⟩ : S72)); (case aB => exact (bs1 HB GE1211)); (case aF => exact (fun k_ hk => Kd.freshB (g := gb1211) (o := .cells #[.int .i64 ((rd_T72 l0 x10_1).f0), .string ((rd_T72 l0 x10_1).f1)] 72 (0, 0)) (by (with_reducible repeat (first | refine blk_drewN ?_ _ | refine blk_drew ?_ | refine blk_alloc ?_ _)); refine blk_put (cs := #[.int .i64 ((rd_T72 l0 x10_1).f0), .string (⟨#[]⟩ : ByteArray)]) ?_ 1 _ rfl; (with_reducible repeat (first | refine blk_drewN ?_ _ | refine blk_drew ?_ | refine blk_alloc ?_ _)); refine blk_put (cs := #[.int .i64 0, .string (⟨#[]⟩ : ByteArray)]) ?_ 0 _ rfl; (with_reducible repeat (first | refine blk_drewN ?_ _ | refine blk_drew ?_ | refine blk_alloc ?_ _)); exact BK1211.out) k_ hk)); (case aO => exact (by (with_reducible repeat (first | apply Kd.R_alloc | apply Kd.R_drewN | apply Kd.R_drew)); exact Kd.R_mono (Kd.R_far (p := ⟨gb1211, 1, none⟩) (Kd.R_far (p := ⟨gb1211, 0, none⟩) (Kd.R_mono HO_5.out (fun k_ hk => (⟨hk, hk.2⟩ : _ ∧ k_ ≠ gb1211))) (fun _ hk => hk.2) (.int .i64 ((rd_T72 l0 x10_1).f0))) (fun _ hk => hk.2) (.string ((rd_T72 l0 x10_1).f1))) (fun _ hk => hk.1.2))); (case aS => exact (below_size (bs1 HB GE1211))); (case aL => have := LMc9.out; omega); intro v1214 w12 ho hb hg hat; rw [← Ny1213.out] at ho; replace BK1211 := Aside0.mk (blk_grown (g := gb1211) (o := .cells #[.int .i64 ((rd_T72 l0 x10_1).f0), .string ((rd_T72 l0 x10_1).f1)] 72 (0, 0)) (by (with_reducible repeat (first | refine blk_drewN ?_ _ | refine blk_drew ?_ | refine blk_alloc ?_ _)); refine blk_put (cs := #[.int .i64 ((rd_T72 l0 x10_1).f0), .string (⟨#[]⟩ : ByteArray)]) ?_ 1 _ rfl; (with_reducible repeat (first | refine blk_drewN ?_ _ | refine blk_drew ?_ | refine blk_alloc ?_ _)); refine blk_put (cs := #[.int .i64 0, .string (⟨#[]⟩ : ByteArray)]) ?_ 0 _ rfl; (with_reducible repeat (first | refine blk_drewN ?_ _ | refine blk_drew ?_ | refine blk_alloc ?_ _)); exact BK1211.out) hg (Kd.R_away HO_5.out (fun _ hk => hk.2))); replace HB := Aside0.mk (hb); have HO1215 := Aside0.mk (ho); clear HO_5; clear ho hb hg hat))
         go_roundg k1
         case measure => have := HK1.out; omega
         case rel => exact ⟨(y1213), (wrap64 (x10_1 + 1)), (by first | rfl | (simp; done) | (simp [*]; done)), H', ⟨by have := HK1.out; omega⟩, rm HO1215 (fun _ hk => trivial), ⟨bs1 HB GE1211⟩⟩
        ·
         rw [if_neg c9] at H
         exact absurd H (by simp)
       ·
        replace c8 := Bool.eq_false_iff.mpr c8
        subst c8
        rw [if_neg (show ¬ (false = true) by decide)] at H
        have H' := Aside0.mk H
        clear H
        have p1210 : 0 ≤ (x10_1 : Int) := of_decide_eq_true (by first | (with_reducible assumption) | assumption)
        have q1210 : x10_1 < (l0.length : Int) := of_decide_eq_true (by first | (with_reducible assumption) | assumption)
        obtain ⟨ad1210, e1210, hx1210_0, hx1210_1⟩ := at_T72 HR0.out x10_1 p1210 q1210
        cases e1210
        replace hx1210_0 := (HB.out.cell (World.block_lt_of_cell? w _ hx1210_0)).trans hx1210_0
        replace hx1210_1 := (HB.out.cell (World.block_lt_of_cell? w _ hx1210_1)).trans hx1210_1
        replace p1210 := eq_true p1210
        replace q1210 := eq_true q1210
        go_wp2_with (first | ((with_reducible refine gate_dst (N := 7) rfl ?_); refine box_event ?hg (N := 7) ?hd (cs := #[.int .i64 0, .string (⟨#[]⟩ : ByteArray)]) (t := 72) ?hr ?_; (case hd => rfl); (case hg => rfl); (case hr => first | (go_simp; done) | (go_simp; rfl)); intro gb1211 hg w13 hbox hb; replace HO_5 := Aside0.mk (Kd.R_below (Kd.R_elderB (rr HO_5.out) gb1211 (Nat.le_of_eq hg.symm)) hb); have BK1211 := Aside0.mk (hbox); have GW1211 := Aside0.mk ((by rw [hg]; exact (below_size (bs HB)) : w.heap.size ≤ gb1211)); have GE1211 := Aside0.mk ((by rw [hg]; exact (below_size (bs HB)) : w.heap.size ≤ gb1211)); replace HB := Aside0.mk (below_step (bs HB) hb); clear hb hbox hg; obtain ⟨hcz14_0, hcz14_1⟩ := cz2 BK1211; obtain ⟨hfz14_0, hfz14_1⟩ := fz2 BK1211; have p1212 : 0 ≤ (x10_1 : Int) := of_decide_eq_true (by first | (with_reducible assumption) | assumption); have q1212 : x10_1 < (l1.length : Int) := of_decide_eq_true (by first | (with_reducible assumption) | assumption); obtain ⟨ad1212, e1212, hx1212_0⟩ := Kd.at_bool HR1.out x10_1 p1212 q1212; (try rw [← Nbq7.out] at hx1212_0); cases e1212; have hn1212_0 : ad1212.block ≠ gb1211 := Nat.ne_of_lt (Nat.lt_of_lt_of_le (by have := World.block_lt_of_cell? _ _ hx1212_0; first | rwa [add_block] at this | exact this) GW1211.out); have hn1212_1 : ad1212.block ≠ gb1211 := Nat.ne_of_lt (Nat.lt_of_lt_of_le (by have := World.block_lt_of_cell? _ _ hx1212_0; first | rwa [add_block] at this | exact this) GW1211.out); replace hx1212_0 := (HB.out.cell (World.block_lt_of_cell? w _ hx1212_0)).trans hx1212_0; replace hx1212_0 := (cell_far (p := ⟨gb1211, 0, none⟩) (by first | (rw [add_block]; exact hn1212_0) | (show (Addr.add _ _).block ≠ _; rw [add_block]; exact hn1212_0) | exact hn1212_0) (.int .i64 ((rd_T72 l0 x10_1).f0))).trans hx1212_0; replace hx1212_0 := (cell_far (p := ⟨gb1211, 1, none⟩) (by first | (rw [add_block]; exact hn1212_1) | (show (Addr.add _ _).block ≠ _; rw [add_block]; exact hn1212_1) | exact hn1212_1) (.string ((rd_T72 l0 x10_1).f1))).trans hx1212_0; clear hn1212_0; clear hn1212_1; replace p1212 := eq_true p1212; replace q1212 := eq_true q1212))
        go_roundg k1
        case measure => have := HK1.out; omega
        case rel => exact ⟨(x5_1), (wrap64 (x10_1 + 1)), (by first | rfl | (simp; done) | (simp [*]; done)), H', ⟨by have := HK1.out; omega⟩, ⟨by (with_reducible repeat (first | apply Kd.R_alloc | apply Kd.R_drewN | apply Kd.R_drew)); exact Kd.R_mono (Kd.R_far (p := ⟨gb1211, 1, none⟩) (Kd.R_far (p := ⟨gb1211, 0, none⟩) (Kd.R_mono HO_5.out (fun k_ hk => (⟨hk, hk.2⟩ : _ ∧ k_ ≠ gb1211))) (fun _ hk => hk.2) (.int .i64 ((rd_T72 l0 x10_1).f0))) (fun _ hk => hk.2) (.string ((rd_T72 l0 x10_1).f1))) (fun _ hk => trivial)⟩, ⟨bs1 HB GE1211⟩⟩
      ·
       rw [if_neg c6] at H
       exact absurd H (by simp)
     ·
      rw [if_neg c5] at H
      exact absurd H (by simp)
    ·
     rw [if_neg c4] at H
     exact absurd H (by simp)
   ·
    rw [if_neg c3] at H
    have c3b0 : decide (x10_1 < (l0.length : Int)) = false := decide_eq_false c3
    clear c3
    obtain rfl := Option.some.inj H
    go_wp2
    go_ret
    exact ⟨_, by first | rfl | (simp [errW_none, errW_some] <;> rfl) | (simp [*, errW_none, errW_some] <;> rfl), by (with_reducible repeat (first | apply Kd.R_alloc | apply Kd.R_drewN | apply Kd.R_drew)); exact HO_5.out, bs HB⟩

/-! ### spec_CrashDevice: function 98 -/
def spec_CrashDevice.j0 : Nat → List Bool → Bool → List ByteArray → List (S72) → Option (List ByteArray × (List (S72)) × Bool)
 | 0, _, _, _, _ => none
 | k + 1, x1, x16, x1217000, x1217001 => if x16 = true then (some (([] : List ByteArray), ([] : List (S72)), false)) else ((spec_l1Kept.f k x1217001 x1).bind fun t1219 => ((spec_l1Done.f k x1217000 t1219).bind fun t1222 => (some (t1222, ([] : List (S72)), true))))
def spec_CrashDevice.f (k : Nat) (l0_0 : List ByteArray) (l0_1 : List (S72)) (l1 : List Bool) : Option (List ByteArray × (List (S72)) × Bool) := (spec_GoodDevice.f k l0_0 l0_1).bind fun t1218 => (if t1218 = true then (spec_CrashDevice.j0 k l1 ((l1.length : Int) != (l0_1.length : Int)) l0_0 l0_1) else (spec_CrashDevice.j0 k l1 true l0_0 l0_1))
theorem spec_CrashDevice.mono_l : ∀ k, (∀ y0 y1 y2 y3, LeO (spec_CrashDevice.j0 k y0 y1 y2 y3) (spec_CrashDevice.j0 (k + 1) y0 y1 y2 y3))
 | 0 => fun _ _ _ _ r h => by simp [spec_CrashDevice.j0] at h
 | k + 1 => by
  have ih0 := spec_CrashDevice.mono_l k
  ·
   intro y0 y1 y2 y3
   unfold spec_CrashDevice.j0
   repeat' first
   | (with_reducible exact ih0 _ _ _ _)
   | (with_reducible exact spec_GoodDevice.mono _ _ _)
   | (with_reducible exact spec_l1Done.mono _ _ _)
   | (with_reducible exact spec_l1Kept.mono _ _ _)
   | (with_reducible exact LeO.refl _)
   | (with_reducible exact LeO.none _)
   | (with_reducible refine LeO.ite ?_ ?_)
   | (with_reducible refine LeO.bind ?_ (fun _ => ?_))
   | exact ih0 _ _ _ _
   | exact spec_GoodDevice.mono _ _ _
   | exact spec_l1Done.mono _ _ _
   | exact spec_l1Kept.mono _ _ _
   | exact LeO.none _
   | refine LeO.ite ?_ ?_
   | refine LeO.bind ?_ (fun _ => ?_)
theorem spec_CrashDevice.mono : ∀ a0 a1 a2 k, LeO (spec_CrashDevice.f k a0 a1 a2) (spec_CrashDevice.f (k + 1) a0 a1 a2) := by
 intro a0 a1 a2 k
 have ih0 := spec_CrashDevice.mono_l k
 unfold spec_CrashDevice.f
 repeat' first
   | (with_reducible exact ih0 _ _ _ _)
   | (with_reducible exact spec_GoodDevice.mono _ _ _)
   | (with_reducible exact spec_l1Done.mono _ _ _)
   | (with_reducible exact spec_l1Kept.mono _ _ _)
   | (with_reducible exact LeO.refl _)
   | (with_reducible exact LeO.none _)
   | (with_reducible refine LeO.ite ?_ ?_)
   | (with_reducible refine LeO.bind ?_ (fun _ => ?_))
   | exact ih0 _ _ _ _
   | exact spec_GoodDevice.mono _ _ _
   | exact spec_l1Done.mono _ _ _
   | exact spec_l1Kept.mono _ _ _
   | exact LeO.none _
   | refine LeO.ite ?_ ?_
   | refine LeO.bind ?_ (fun _ => ?_)
def spec_CrashDevice.T3 : Bool × List (List Nat × List Nat) := (true, [([], []), ([0], [0]), ([], []), ([2], [2]), ([], []), ([3, 4], [3, 4]), ([1, 5, 5], [1, 5]), ([6], [6]), ([7, 6, 0, 1, 2, 3, 4, 5, 6, 7], [7]), ([8, 0, 1, 2, 3, 4, 5, 6, 7, 8], [])])
def spec_CrashDevice.B3 : List Nat := [0, 1, 0, 4, 0, 28, 63, 127, 255, 511]
theorem spec_CrashDevice.tab3 : rtab .any (opsOf Try.f98 3) = spec_CrashDevice.T3 := by kernel_rfl
theorem spec_CrashDevice.bits3 : waitsOk spec_CrashDevice.T3.2 spec_CrashDevice.B3 = true := by kernel_rfl
set_option maxHeartbeats 8000000 in
set_option maxRecDepth 100000 in
theorem spec_CrashDevice.calls (k : Nat) (A0_0 : Option Addr) (c0_0 : Nat) (l0_0 : List ByteArray) (A0_1 : Option Addr) (c0_1 : Nat) (l0_1 : List (S72)) (A1 : Option Addr) (c1 : Nat) (l1 : List Bool) (r1 : List ByteArray) (r2 : List (S72)) (r3 : Bool) (w : World) (hr0_0 : Kd.C Kd.string w A0_0 l0_0.length l0_0) (hc0_0 : l0_0.length ≤ c0_0) (hr0_1 : Kd.C k72 w A0_1 l0_1.length l0_1) (hc0_1 : l0_1.length ≤ c0_1) (hr1 : Kd.C Kd.bool w A1 l1.length l1) (hc1 : l1.length ≤ c1) (h : spec_CrashDevice.f k l0_0 l0_1 l1 = some (r1, r2, r3)) :
  Calls Try.prog 98 #[.agg #[.slice A0_0 l0_0.length c0_0, .slice A0_1 l0_1.length c0_1], .slice A1 l1.length c1] w fun e w' => ∃ v0_ v1_ : Value, e = .returned (.tuple #[.agg #[v0_, v1_], .bool r3]) ∧ Kd.R Kd.string 9 w' w.heap.size (fun _ => True) v0_ r1 ∧ Kd.R k72 72 w' w.heap.size (fun _ => True) v1_ r2 ∧ Below w.heap.size w w' := by
 have hu42 := Try.underlying42
 have HR0_0 := Aside0.mk hr0_0
 have HC0_0 := Aside0.mk hc0_0
 clear hr0_0 hc0_0
 have HR0_1 := Aside0.mk hr0_1
 have HC0_1 := Aside0.mk hc0_1
 clear hr0_1 hc0_1
 have HR1 := Aside0.mk hr1
 have HC1 := Aside0.mk hc1
 clear hr1 hc1
 have HB := Aside0.mk (Below.refl w.heap.size w)
 have H : ((spec_GoodDevice.f k l0_0 l0_1).bind fun t1218 => (if t1218 = true then (spec_CrashDevice.j0 k l1 ((l1.length : Int) != (l0_1.length : Int)) l0_0 l0_1) else (spec_CrashDevice.j0 k l1 true l0_0 l0_1))) = some (r1, r2, r3) := h
 clear h
 have HC3 := Aside0.mk H
 clear H
 go_enter Try.func98, Try.ntmps98
 go_upto_region 1 with (first | ((with_reducible refine gate_dst (N := 2) rfl ?_); (try (refine gate_guard (by rfl) ?_; dsimp only)); refine box_event ?hg (N := 2) ?hd (cs := #[.slice A0_0 l0_0.length c0_0, .slice A0_1 l0_1.length c0_1]) (t := 42) ?hr ?_; (case hd => rfl); (case hg => rfl); (case hr => first | (go_simp; done) | (go_simp; rfl)); intro gb1216 hg w4 hbox hb; have BK1216 := Aside0.mk (hbox); have GW1216 := Aside0.mk ((by rw [hg]; exact (below_size (bs HB)) : w.heap.size ≤ gb1216)); have GE1216 := Aside0.mk ((by rw [hg]; exact (below_size (bs HB)) : w.heap.size ≤ gb1216)); replace HB := Aside0.mk (below_step (bs HB) hb); clear hb hbox hg) | ((with_reducible refine gate_dst (N := 4) rfl ?_); (try (refine gate_guard (by rfl) ?_; dsimp only)); refine box_event ?hg (N := 4) ?hd (cs := #[.slice none 0 0, .slice none 0 0]) (t := 42) ?hr ?_; (case hd => rfl); (case hg => rfl); (case hr => first | (go_simp; done) | (go_simp; rfl)); intro gb1217 hg w5 hbox hb; have BK1217 := Aside0.mk (hbox); have GW1217 := Aside0.mk ((by rw [hg]; exact (below_size (bs1 HB GE1216)) : w.heap.size ≤ gb1217)); have GE1217 := Aside0.mk ((by rw [hg]; exact (below_size (bs1 HB GE1216)) : w.heap.size ≤ gb1217)); replace HB := Aside0.mk (below_step (bs1 HB GE1216) hb); have NB1216_1217 := Aside0.mk ((bn BK1216 hg : gb1216 ≠ gb1217)); have NB1217_1216 := Aside0.mk ((bm BK1216 hg : gb1217 ≠ gb1216)); replace BK1216 := nb BK1216 hb; clear hb hbox hg))
 (try simp only [Act.put, List.setIfInBounds_toArray, List.set_cons_zero, List.set_cons_succ])
 go_cut [16] (fun v16 wc => ∃ (kq : Nat) (x16_2 : Bool), v16 = .bool x16_2 ∧ Aside0 (spec_CrashDevice.j0 kq l1 x16_2 l0_0 l0_1 = some (r1, r2, r3)) ∧ Aside0 (kq ≤ k) ∧ Aside0 (wc.heap[gb1216]? = some (.cells #[(.slice A0_0 l0_0.length c0_0), (.slice A0_1 l0_1.length c0_1)] 42 (0, 0))) ∧ Aside0 (wc.heap[gb1217]? = some (.cells #[(.slice none 0 0), (.slice none 0 0)] 42 (0, 0))) ∧ Aside0 (Below w.heap.size w wc))
 case first =>
  have H := HC3.out
  clear HC3
  replace H := Option.bind_eq_some_iff.mp H
  obtain ⟨t1218, A60, H⟩ := H
  replace H : (if t1218 = true then (spec_CrashDevice.j0 k l1 ((l1.length : Int) != (l0_1.length : Int)) l0_0 l0_1) else (spec_CrashDevice.j0 k l1 true l0_0 l0_1)) = some (r1, r2, r3) := H
  have A6 := Aside0.mk A60
  clear A60
  by_cases c7 : t1218 = true
  ·
   subst c7
   rw [if_pos rfl] at H
   have H' := Aside0.mk H
   clear H
   have hnb8 := NB1216_1217.out
   have hnc8 := NB1217_1216.out
   obtain ⟨hcz9_0, hcz9_1⟩ := cz2 BK1216
   obtain ⟨hfz9_0, hfz9_1⟩ := fz2 BK1216
   go_wp2_with (first | ((with_reducible refine gate_callee (f := 71) rfl ?_); refine gL (some 7) rfl rfl Try.func71 (by kernel_rfl) rfl #[.agg #[.slice A0_0 l0_0.length c0_0, .slice A0_1 l0_1.length c0_1]] rfl ?_; (with_reducible refine (spec_GoodDevice.calls k _ _ l0_0 _ _ l0_1 true _ ?side1 ?side2 ?side3 ?side4 A6.out).mono ?_); (case side1 => exact cb HR0_0 HB); (case side2 => exact HC0_0.out); (case side3 => exact cb HR0_1 HB); (case side4 => exact HC0_1.out); rintro e w10 ⟨rfl, hb⟩; refine ⟨_, rfl, ?_⟩; replace BK1216 := nb BK1216 hb; replace BK1217 := nb BK1217 hb; replace HB := Aside0.mk (below_step (bs2 HB GE1216 GE1217) hb); (try clear hb); (try clear hb2); (try clear hk); (try clear hi); obtain ⟨hcz11_0, hcz11_1⟩ := cz2 BK1216; obtain ⟨hfz11_0, hfz11_1⟩ := fz2 BK1216))
   go_meet
   case rel => exact ⟨_, (((l1.length : Int) != (l0_1.length : Int))), (by first | rfl | (simp; done) | (simp [*]; done)), H', ⟨by first | omega | exact Nat.le_refl _⟩, ⟨bk BK1216⟩, ⟨bk BK1217⟩, ⟨bs2 HB GE1216 GE1217⟩⟩
  ·
   replace c7 := Bool.eq_false_iff.mpr c7
   subst c7
   rw [if_neg (show ¬ (false = true) by decide)] at H
   have H' := Aside0.mk H
   clear H
   have hnb12 := NB1216_1217.out
   have hnc12 := NB1217_1216.out
   obtain ⟨hcz13_0, hcz13_1⟩ := cz2 BK1216
   obtain ⟨hfz13_0, hfz13_1⟩ := fz2 BK1216
   go_wp2_with (first | ((with_reducible refine gate_callee (f := 71) rfl ?_); refine gL (some 7) rfl rfl Try.func71 (by kernel_rfl) rfl #[.agg #[.slice A0_0 l0_0.length c0_0, .slice A0_1 l0_1.length c0_1]] rfl ?_; (with_reducible refine (spec_GoodDevice.calls k _ _ l0_0 _ _ l0_1 false _ ?side1 ?side2 ?side3 ?side4 A6.out).mono ?_); (case side1 => exact cb HR0_0 HB); (case side2 => exact HC0_0.out); (case side3 => exact cb HR0_1 HB); (case side4 => exact HC0_1.out); rintro e w14 ⟨rfl, hb⟩; refine ⟨_, rfl, ?_⟩; replace BK1216 := nb BK1216 hb; replace BK1217 := nb BK1217 hb; replace HB := Aside0.mk (below_step (bs2 HB GE1216 GE1217) hb); (try clear hb); (try clear hb2); (try clear hk); (try clear hi)))
   go_meet
   case rel => exact ⟨_, (true), (by first | rfl | (simp; done) | (simp [*]; done)), H', ⟨by first | omega | exact Nat.le_refl _⟩, ⟨bk BK1216⟩, ⟨bk BK1217⟩, ⟨bs2 HB GE1216 GE1217⟩⟩
 case rest =>
  clear HC3
  try clear c1
  try clear p2
  try clear c7
  try clear c8
  try clear c9
  try clear c12
  try clear hcz11_0 hcz11_1
  try clear hcz13_0 hcz13_1
  try clear hcz9_0 hcz9_1
  try clear hfz11_0 hfz11_1
  try clear hfz13_0 hfz13_1
  try clear hfz9_0 hfz9_1
  obtain ⟨kq, x16_2, rfl, HA, HJ2, BK1216, BK1217, HB⟩ := hcut
  cases kq with
  | zero => exact absurd HA.out (by simp [spec_CrashDevice.j0])
  | succ kj2 =>
   have H := HA.out
   clear HA
   simp only [spec_CrashDevice.j0] at H
   by_cases c15 : x16_2 = true
   ·
    subst c15
    rw [if_pos rfl] at H
    simp only [Option.some.injEq, Prod.mk.injEq] at H
    obtain ⟨rfl, rfl, rfl⟩ := H
    have hnb16 := NB1217_1216.out
    have hnc16 := NB1216_1217.out
    obtain ⟨hcz17_0, hcz17_1⟩ := cz2 BK1217
    obtain ⟨hfz17_0, hfz17_1⟩ := fz2 BK1217
    go_wp2
    refine bodyPost_ret (results_ct rfl _ _ gb1217 42 #[.slice none 0 0, .slice none 0 0] (0, 0) _ rfl (by (with_reducible repeat (first | refine blk_drewN ?_ _ | refine blk_drew ?_ | refine blk_alloc ?_ _)); refine blk_put (cs := #[.slice none 0 0, .slice none 0 0]) ?_ 1 _ rfl; (with_reducible repeat (first | refine blk_drewN ?_ _ | refine blk_drew ?_ | refine blk_alloc ?_ _)); refine blk_put (cs := #[.slice none 0 0, .slice none 0 0]) ?_ 0 _ rfl; (with_reducible repeat (first | refine blk_drewN ?_ _ | refine blk_drew ?_ | refine blk_alloc ?_ _)); exact BK1217.out) Try.underlying42 rfl (by kernel_rfl)) rfl ?_
    exact ⟨_, _, by first | rfl | (simp [errW_none, errW_some] <;> rfl) | (simp [*, errW_none, errW_some] <;> rfl), by first | exact Kd.R_nil _ _ _ _ _ | exact Kd.N_nil _ _ _ _ _ | exact Kd.V_nil _ _ _ _ _ | exact Kd.Q_nil _ _ _ _ _ | exact Kd.S_nil _ _ _ _ _, by first | exact Kd.R_nil _ _ _ _ _ | exact Kd.N_nil _ _ _ _ _ | exact Kd.V_nil _ _ _ _ _ | exact Kd.Q_nil _ _ _ _ _ | exact Kd.S_nil _ _ _ _ _, bs2 HB GE1216 GE1217⟩
   ·
    replace c15 := Bool.eq_false_iff.mpr c15
    subst c15
    rw [if_neg (show ¬ (false = true) by decide)] at H
    replace H := Option.bind_eq_some_iff.mp H
    obtain ⟨t1219, A180, H⟩ := H
    replace H : ((spec_l1Done.f kj2 l0_0 t1219).bind fun t1222 => (some (t1222, ([] : List (S72)), true))) = some (r1, r2, r3) := H
    have A18 := Aside0.mk A180
    clear A180
    replace H := Option.bind_eq_some_iff.mp H
    obtain ⟨t1222, A190, H⟩ := H
    replace H : (some (t1222, ([] : List (S72)), true)) = some (r1, r2, r3) := H
    have A19 := Aside0.mk A190
    clear A190
    simp only [Option.some.injEq, Prod.mk.injEq] at H
    obtain ⟨rfl, rfl, rfl⟩ := H
    try go_wp2
    have n0_ := Aside0.mk (blk_drew BK1216.out)
    have n1_ := Aside0.mk (blk_drew BK1217.out)
    have n2_ := Aside0.mk (below_drew1 HB.out)
    clear BK1216
    clear BK1217
    clear HB
    have BK1216 := n0_
    have BK1217 := n1_
    have HB := n2_
    clear n0_ n1_ n2_
    refine start_ (n := 10) (S := fun w' => w'.cell? ⟨gb1216, 0, none⟩ = some (.slice A0_0 l0_0.length c0_0) ∧ w'.cell? ⟨gb1216, 1, none⟩ = some (.slice A0_1 l0_1.length c0_1)) (ds := []) #[false, false, false, false, false, false, false, false, false, false] (by kernel_rfl) rfl rfl ⟨(blk_cell BK1216.out 0).trans rfl, (blk_cell BK1216.out 1).trans rfl⟩ (fun hHeld => ?_); refine with_tabW spec_CrashDevice.tab3 spec_CrashDevice.bits3 (fun HT_ HW_ => ?_)
    generalize wc.drew = w20 at BK1216 BK1217 HB hHeld ⊢
    refine pure_ (i := 0) (N := some 18) (v := ?_) (a' := ?_) #[true, false, false, false, false, false, false, false, false, false] rfl rfl (any_of HT_.out (by kernel_rfl)) (fun _ _ _ h => h) (Or.inl ⟨by rfl, ?_⟩) ?_ ?_
    rotate_left
    ·
     intro w'
     go_simp
     with_reducible rfl
    rotate_left
    ·
     simp only [Act.put, List.setIfInBounds_toArray, List.set_cons_zero, List.set_cons_succ, i64_w, i32_w]
     rfl
    refine pure_ (i := 2) (N := some 20) (v := ?_) (a' := ?_) #[true, false, true, false, false, false, false, false, false, false] rfl rfl (any_of HT_.out (by kernel_rfl)) (fun _ _ _ h => h) (Or.inl ⟨by rfl, ?_⟩) ?_ ?_
    rotate_left
    ·
     intro w'
     go_simp
     with_reducible rfl
    rotate_left
    ·
     simp only [Act.put, List.setIfInBounds_toArray, List.set_cons_zero, List.set_cons_succ, i64_w, i32_w]
     rfl
    refine pure_ (i := 4) (N := some 22) (v := ?_) (a' := ?_) #[true, false, true, false, true, false, false, false, false, false] rfl rfl (any_of HT_.out (by kernel_rfl)) (fun _ _ _ h => h) (Or.inl ⟨by rfl, ?_⟩) ?_ ?_
    rotate_left
    ·
     intro w'
     go_simp
     with_reducible rfl
    rotate_left
    ·
     simp only [Act.put, List.setIfInBounds_toArray, List.set_cons_zero, List.set_cons_succ, i64_w, i32_w]
     rfl
    refine take_ (i := 1) (N := some 19) (v := ?_) (a' := ?_) #[true, true, true, false, true, false, false, false, false, false] rfl rfl (take_ofW HT_.out HW_.out (by kernel_rfl)) (fun _ _ _ h => h) (Or.inl ⟨by rfl, ?_⟩) hHeld ?_ ?_
    rotate_left
    ·
     rintro w' ⟨s0, s1⟩
     go_simp
     with_reducible rfl
    rotate_left
    ·
     simp only [Act.put, List.setIfInBounds_toArray, List.set_cons_zero, List.set_cons_succ, i64_w, i32_w]
     rfl
    refine take_ (i := 3) (N := some 21) (v := ?_) (a' := ?_) #[true, true, true, true, true, false, false, false, false, false] rfl rfl (take_ofW HT_.out HW_.out (by kernel_rfl)) (fun _ _ _ h => h) (Or.inl ⟨by rfl, ?_⟩) hHeld ?_ ?_
    rotate_left
    ·
     rintro w' ⟨s0, s1⟩
     go_simp
     with_reducible rfl
    rotate_left
    ·
     simp only [Act.put, List.setIfInBounds_toArray, List.set_cons_zero, List.set_cons_succ, i64_w, i32_w]
     rfl
    refine one_ (i := 5) (N := some 23) #[true, true, true, true, true, true, false, false, false, false] rfl rfl (one_of HT_.out (by kernel_rfl)) (by decide) (fun K hK => ?_)
    refine goes_ Try.func118 (by kernel_rfl) rfl #[.slice A0_1 l0_1.length c0_1, .slice A1 l1.length c1] (by rfl) rfl rfl (by (try simp only [List.map_toArray, List.map_cons, List.map_nil]); first | done | rfl | (simp only [List.length_drop, List.length_take]; rfl)) ?_
    with_reducible refine (spec_l1Kept.calls kj2 _ _ l0_1 _ _ l1 t1219 _ ?side1 ?side2 ?side3 ?side4 A18.out).mono ?_
    (case side1 => exact cb HR0_1 HB)
    (case side2 => exact HC0_1.out)
    (case side3 => exact cb HR1 HB)
    (case side4 => exact HC1.out)
    rintro e w21 ⟨v1220, rfl, ho0, hb⟩
    refine ⟨_, rfl, ?_⟩
    have n0_ := Aside0.mk (Kd.R_lower ho0 (below_size (bs2 HB GE1216 GE1217)))
    have n1_ := Aside0.mk (bb BK1216 hb)
    have n2_ := Aside0.mk (bb BK1217 hb)
    have n3_ := Aside0.mk (below_step (bs2 HB GE1216 GE1217) hb)
    clear BK1216
    clear BK1217
    clear HB
    have HO1221 := n0_
    have BK1216 := n1_
    have BK1217 := n2_
    have HB := n3_
    clear n0_ n1_ n2_ n3_
    (try clear hb)
    (try clear hb2)
    (try clear hk)
    (try clear hi)
    (try clear ho0)
    obtain ⟨Ao22, co22, eo22⟩ := Kd.R_slice HO1221.out
    (first | subst eo22 | (injection eo22 with f1_ f2_ f3_; have f4_ := f1_.symm; have f5_ := f3_.symm; clear f1_ f2_ f3_; subst f4_; subst f5_))
    refine hK.out _ _ ⟨(blk_cell BK1216.out 0).trans rfl, (blk_cell BK1216.out 1).trans rfl⟩ (fun hHeld => ?_)
    clear hK K
    refine norm_ (a' := ?_) ?_ ?_
    rotate_left
    ·
     show Act.put _ (some 23) _ = _
     simp only [Act.put, List.setIfInBounds_toArray, List.set_cons_zero, List.set_cons_succ, i64_w, i32_w]
     rfl
    refine one_ (i := 6) (N := some 24) #[true, true, true, true, true, true, true, false, false, false] rfl rfl (one_of HT_.out (by kernel_rfl)) (by decide) (fun K hK => ?_)
    refine goes_ Try.func87 (by kernel_rfl) rfl #[.slice A0_0 l0_0.length c0_0, .slice Ao22 t1219.length co22] (by rfl) rfl rfl (by (try simp only [List.map_toArray, List.map_cons, List.map_nil]); first | done | rfl | (simp only [List.length_drop, List.length_take]; rfl)) ?_
    with_reducible refine (spec_l1Done.calls kj2 _ _ l0_0 _ _ t1219 t1222 _ ?side1 ?side2 ?side3 ?side4 A19.out).mono ?_
    (case side1 => exact cb HR0_0 HB)
    (case side2 => exact HC0_0.out)
    (case side3 => exact rc0 HO1221)
    (case side4 => exact (Kd.R_reads' HO1221.out).2.1)
    rintro e w23 ⟨v1223, rfl, ho0, hb⟩
    refine ⟨_, rfl, ?_⟩
    have n0_ := Aside0.mk (Kd.R_below (rr HO1221.out) hb)
    have n1_ := Aside0.mk (Kd.R_lower ho0 (below_size (bs2 HB GE1216 GE1217)))
    have n2_ := Aside0.mk (bb BK1216 hb)
    have n3_ := Aside0.mk (bb BK1217 hb)
    have n4_ := Aside0.mk (below_step (bs2 HB GE1216 GE1217) hb)
    clear HO1221
    clear BK1216
    clear BK1217
    clear HB
    have HO1221 := n0_
    have HO1224 := n1_
    have BK1216 := n2_
    have BK1217 := n3_
    have HB := n4_
    clear n0_ n1_ n2_ n3_ n4_
    (try clear hb)
    (try clear hb2)
    (try clear hk)
    (try clear hi)
    (try clear ho0)
    obtain ⟨Ao24, co24, eo24⟩ := Kd.R_slice HO1224.out
    (first | subst eo24 | (injection eo24 with f1_ f2_ f3_; have f4_ := f1_.symm; have f5_ := f3_.symm; clear f1_ f2_ f3_; subst f4_; subst f5_))
    refine hK.out _ _ ⟨(blk_cell BK1216.out 0).trans rfl, (blk_cell BK1216.out 1).trans rfl⟩ (fun hHeld => ?_)
    clear hK K
    refine norm_ (a' := ?_) ?_ ?_
    rotate_left
    ·
     show Act.put _ (some 24) _ = _
     simp only [Act.put, List.setIfInBounds_toArray, List.set_cons_zero, List.set_cons_succ, i64_w, i32_w]
     rfl
    refine pure_ (i := 7) (N := some 25) (v := ?_) (a' := ?_) #[true, true, true, true, true, true, true, true, false, false] rfl rfl (any_of HT_.out (by kernel_rfl)) (fun _ _ _ h => h) (Or.inl ⟨by rfl, ?_⟩) ?_ ?_
    rotate_left
    ·
     intro w'
     go_simp
     with_reducible rfl
    rotate_left
    ·
     simp only [Act.put, List.setIfInBounds_toArray, List.set_cons_zero, List.set_cons_succ, i64_w, i32_w]
     rfl
    refine one_ (i := 8) (N := none) #[true, true, true, true, true, true, true, true, true, false] rfl rfl (one_of HT_.out (by kernel_rfl)) (by decide) (fun K hK => ?_)
    have hs25 : w23.cell? ⟨gb1217, 0, none⟩ = some (.slice none 0 0) := (blk_cell BK1217.out 0).trans rfl
    have hfs25 := blk_frozen BK1217.out 0
    have hns25_0 := NB1216_1217.out
    have hms25_0 := NB1217_1216.out
    have hs26 : w23.cell? ⟨gb1217, 1, none⟩ = some (.slice none 0 0) := (blk_cell BK1217.out 1).trans rfl
    have hfs26 := blk_frozen BK1217.out 1
    have hns26_0 := NB1216_1217.out
    have hms26_0 := NB1217_1216.out
    refine skip_ (w1 := ?_) (by rfl) rfl ?_ ?_
    rotate_left
    ·
     go_simp
     rfl
    refine hK.out _ _ ⟨((cell_far (p := ⟨gb1217, _, none⟩) NB1216_1217.out _).trans (((cell_far (p := ⟨gb1217, _, none⟩) NB1216_1217.out _).trans (hHeld.1)))), ((cell_far (p := ⟨gb1217, _, none⟩) NB1216_1217.out _).trans (((cell_far (p := ⟨gb1217, _, none⟩) NB1216_1217.out _).trans (hHeld.2))))⟩ (fun hHeld => ?_)
    clear hK K
    refine pure_ (i := 9) (N := some 5) (v := ?_) (a' := ?_) #[true, true, true, true, true, true, true, true, true, true] rfl rfl (any_of HT_.out (by kernel_rfl)) (fun _ _ _ h => h) (Or.inl ⟨by rfl, ?_⟩) ?_ ?_
    rotate_left
    ·
     intro w'
     go_simp
     with_reducible rfl
    rotate_left
    ·
     simp only [Act.put, List.setIfInBounds_toArray, List.set_cons_zero, List.set_cons_succ, i64_w, i32_w]
     rfl
    refine done_ (done_of HT_.out (by kernel_rfl)) ?_
    try go_wp2
    refine bodyPost_ret (results_ct rfl _ _ gb1217 42 #[.slice Ao24 t1222.length co24, .slice none 0 0] (0, 0) _ rfl (by (with_reducible repeat (first | refine blk_drewN ?_ _ | refine blk_drew ?_ | refine blk_alloc ?_ _)); refine blk_put (cs := #[.slice Ao24 t1222.length co24, .slice none 0 0]) ?_ 1 _ rfl; (with_reducible repeat (first | refine blk_drewN ?_ _ | refine blk_drew ?_ | refine blk_alloc ?_ _)); refine blk_put (cs := #[.slice none 0 0, .slice none 0 0]) ?_ 0 _ rfl; (with_reducible repeat (first | refine blk_drewN ?_ _ | refine blk_drew ?_ | refine blk_alloc ?_ _)); exact BK1217.out) Try.underlying42 rfl (by kernel_rfl)) rfl ?_
    exact ⟨_, _, by first | rfl | (simp [errW_none, errW_some] <;> rfl) | (simp [*, errW_none, errW_some] <;> rfl), by (with_reducible repeat (first | apply Kd.R_alloc | apply Kd.R_drewN | apply Kd.R_drew)); exact Kd.R_mono (Kd.R_far (p := ⟨gb1217, 1, none⟩) (Kd.R_far (p := ⟨gb1217, 0, none⟩) (Kd.R_types HO1224.out BK1217.out (by decide)) (fun _ hk => hk.2) (.slice Ao24 t1222.length co24)) (fun _ hk => hk.2) (.slice none 0 0)) (fun _ hk => trivial), by first | exact Kd.R_nil _ _ _ _ _ | exact Kd.N_nil _ _ _ _ _ | exact Kd.V_nil _ _ _ _ _ | exact Kd.Q_nil _ _ _ _ _ | exact Kd.S_nil _ _ _ _ _, bs2 HB GE1216 GE1217⟩

/-! ### spec_CrashStore: function 49 -/
def spec_CrashStore.j0 : Nat → List Bool → Int → Bool → List ByteArray → List (S72) → List ByteArray → Int → Option (List ByteArray × (List (S72)) × List ByteArray × Int × Bool)
 | 0, _, _, _, _, _, _, _ => none
 | k + 1, x1, x2, x22, x1226000, x1226001, x1226002, x1226003 => if x22 = true then (some (([] : List ByteArray), ([] : List (S72)), ([] : List ByteArray), 0, false)) else ((spec_CrashDevice.f k x1226000 x1226001 x1).bind fun bt1229 => (if bt1229.2.2 = true then ((some (([] : List ByteArray) : List ByteArray)).bind fun y1237 => (if 0 ≤ x2 then (if x2 ≤ (x1226002.length : Int) then (if y1237.length + (x1226002.take (x2 : Int).toNat).length < 8796093022208 then (some (bt1229.1, bt1229.2.1, (y1237 ++ (x1226002.take (x2 : Int).toNat)), x2, true)) else (none)) else (none)) else (none))) else (some (([] : List ByteArray), ([] : List (S72)), ([] : List ByteArray), 0, false))))
def spec_CrashStore.f (k : Nat) (l0_0 : List ByteArray) (l0_1 : List (S72)) (l0_2 : List ByteArray) (a0_3 : Int) (l1 : List Bool) (a2 : Int) : Option (List ByteArray × (List (S72)) × List ByteArray × Int × Bool) := (spec_GoodStore.f k l0_0 l0_1 l0_2 a0_3).bind fun t1227 => (if t1227 = true then ((spec_l1In.f a2 a0_3 (l0_2.length : Int)).bind fun t1228 => (spec_CrashStore.j0 k l1 a2 (!t1228) l0_0 l0_1 l0_2 a0_3)) else (spec_CrashStore.j0 k l1 a2 true l0_0 l0_1 l0_2 a0_3))
theorem spec_CrashStore.mono_l : ∀ k, (∀ y0 y1 y2 y3 y4 y5 y6, LeO (spec_CrashStore.j0 k y0 y1 y2 y3 y4 y5 y6) (spec_CrashStore.j0 (k + 1) y0 y1 y2 y3 y4 y5 y6))
 | 0 => fun _ _ _ _ _ _ _ r h => by simp [spec_CrashStore.j0] at h
 | k + 1 => by
  have ih0 := spec_CrashStore.mono_l k
  ·
   intro y0 y1 y2 y3 y4 y5 y6
   unfold spec_CrashStore.j0
   repeat' first
   | (with_reducible exact ih0 _ _ _ _ _ _ _)
   | (with_reducible exact spec_CrashDevice.mono _ _ _ _)
   | (with_reducible exact spec_GoodStore.mono _ _ _ _ _)
   | (with_reducible exact LeO.refl _)
   | (with_reducible exact LeO.none _)
   | (with_reducible refine LeO.ite ?_ ?_)
   | (with_reducible refine LeO.bind ?_ (fun _ => ?_))
   | exact ih0 _ _ _ _ _ _ _
   | exact spec_CrashDevice.mono _ _ _ _
   | exact spec_GoodStore.mono _ _ _ _ _
   | exact LeO.none _
   | refine LeO.ite ?_ ?_
   | refine LeO.bind ?_ (fun _ => ?_)
theorem spec_CrashStore.mono : ∀ a0 a1 a2 a3 a4 a5 k, LeO (spec_CrashStore.f k a0 a1 a2 a3 a4 a5) (spec_CrashStore.f (k + 1) a0 a1 a2 a3 a4 a5) := by
 intro a0 a1 a2 a3 a4 a5 k
 have ih0 := spec_CrashStore.mono_l k
 unfold spec_CrashStore.f
 repeat' first
   | (with_reducible exact ih0 _ _ _ _ _ _ _)
   | (with_reducible exact spec_CrashDevice.mono _ _ _ _)
   | (with_reducible exact spec_GoodStore.mono _ _ _ _ _)
   | (with_reducible exact LeO.refl _)
   | (with_reducible exact LeO.none _)
   | (with_reducible refine LeO.ite ?_ ?_)
   | (with_reducible refine LeO.bind ?_ (fun _ => ?_))
   | exact ih0 _ _ _ _ _ _ _
   | exact spec_CrashDevice.mono _ _ _ _
   | exact spec_GoodStore.mono _ _ _ _ _
   | exact LeO.none _
   | refine LeO.ite ?_ ?_
   | refine LeO.bind ?_ (fun _ => ?_)
def spec_CrashStore.T6 : Bool × List (List Nat × List Nat) := (true, [([], []), ([], []), ([], []), ([2], [2]), ([], []), ([3, 4], [3, 4]), ([1, 5], [1, 5]), ([], []), ([0, 6, 7], [0, 6, 7]), ([8, 6, 0, 1, 2, 3, 4, 5, 6, 7, 8], [8]), ([9, 0, 1, 2, 3, 4, 5, 6, 7, 8, 9], [])])
def spec_CrashStore.B6 : List Nat := [0, 0, 0, 4, 0, 28, 62, 0, 255, 511, 1023]
theorem spec_CrashStore.tab6 : rtab .any (opsOf Try.f49 6) = spec_CrashStore.T6 := by kernel_rfl
theorem spec_CrashStore.bits6 : waitsOk spec_CrashStore.T6.2 spec_CrashStore.B6 = true := by kernel_rfl
set_option maxHeartbeats 8000000 in
set_option maxRecDepth 100000 in
theorem spec_CrashStore.calls (k : Nat) (A0_0 : Option Addr) (c0_0 : Nat) (l0_0 : List ByteArray) (A0_1 : Option Addr) (c0_1 : Nat) (l0_1 : List (S72)) (A0_2 : Option Addr) (c0_2 : Nat) (l0_2 : List ByteArray) (a0_3 : Int) (A1 : Option Addr) (c1 : Nat) (l1 : List Bool) (a2 : Int) (r1 : List ByteArray) (r2 : List (S72)) (r3 : List ByteArray) (r4 : Int) (r5 : Bool) (w : World) (hr0_0 : Kd.C Kd.string w A0_0 l0_0.length l0_0) (hc0_0 : l0_0.length ≤ c0_0) (hr0_1 : Kd.C k72 w A0_1 l0_1.length l0_1) (hc0_1 : l0_1.length ≤ c0_1) (hr0_2 : Kd.C Kd.string w A0_2 l0_2.length l0_2) (hc0_2 : l0_2.length ≤ c0_2) (hr1 : Kd.C Kd.bool w A1 l1.length l1) (hc1 : l1.length ≤ c1) (h : spec_CrashStore.f k l0_0 l0_1 l0_2 a0_3 l1 a2 = some (r1, r2, r3, r4, r5)) :
  Calls Try.prog 49 #[.agg #[.slice A0_0 l0_0.length c0_0, .slice A0_1 l0_1.length c0_1, .slice A0_2 l0_2.length c0_2, .int .i64 a0_3], .slice A1 l1.length c1, .int .i64 a2] w fun e w' => ∃ v0_ v1_ v2_ : Value, e = .returned (.tuple #[.agg #[v0_, v1_, v2_, .int .i64 r4], .bool r5]) ∧ Kd.R Kd.string 9 w' w.heap.size (fun k_ => some k_ ≠ (v2_ : Value).ownBlock) v0_ r1 ∧ Kd.R k72 72 w' w.heap.size (fun _ => True) v1_ r2 ∧ Kd.R Kd.string 9 w' w.heap.size (fun k_ => some k_ ≠ (v0_ : Value).ownBlock) v2_ r3 ∧ Below w.heap.size w w' := by
 have hu44 := Try.underlying44
 have hu42 := Try.underlying42
 have HR0_0 := Aside0.mk hr0_0
 have HC0_0 := Aside0.mk hc0_0
 clear hr0_0 hc0_0
 have HR0_1 := Aside0.mk hr0_1
 have HC0_1 := Aside0.mk hc0_1
 clear hr0_1 hc0_1
 have HR0_2 := Aside0.mk hr0_2
 have HC0_2 := Aside0.mk hc0_2
 clear hr0_2 hc0_2
 have HR1 := Aside0.mk hr1
 have HC1 := Aside0.mk hc1
 clear hr1 hc1
 have HB := Aside0.mk (Below.refl w.heap.size w)
 have H : ((spec_GoodStore.f k l0_0 l0_1 l0_2 a0_3).bind fun t1227 => (if t1227 = true then ((spec_l1In.f a2 a0_3 (l0_2.length : Int)).bind fun t1228 => (spec_CrashStore.j0 k l1 a2 (!t1228) l0_0 l0_1 l0_2 a0_3)) else (spec_CrashStore.j0 k l1 a2 true l0_0 l0_1 l0_2 a0_3))) = some (r1, r2, r3, r4, r5) := h
 clear h
 have HC4 := Aside0.mk H
 clear H
 go_enter Try.func49, Try.ntmps49
 go_upto_region 1 with (first | ((with_reducible refine gate_dst (N := 3) rfl ?_); (try (refine gate_guard (by rfl) ?_; dsimp only)); refine box_event ?hg (N := 3) ?hd (cs := #[.slice A0_0 l0_0.length c0_0, .slice A0_1 l0_1.length c0_1, .slice A0_2 l0_2.length c0_2, .int .i64 a0_3]) (t := 44) ?hr ?_; (case hd => rfl); (case hg => rfl); (case hr => first | (go_simp; done) | (go_simp; rfl)); intro gb1225 hg w5 hbox hb; have BK1225 := Aside0.mk (hbox); have GW1225 := Aside0.mk ((by rw [hg]; exact (below_size (bs HB)) : w.heap.size ≤ gb1225)); have GE1225 := Aside0.mk ((by rw [hg]; exact (below_size (bs HB)) : w.heap.size ≤ gb1225)); replace HB := Aside0.mk (below_step (bs HB) hb); clear hb hbox hg) | ((with_reducible refine gate_dst (N := 6) rfl ?_); (try (refine gate_guard (by rfl) ?_; dsimp only)); refine box_event ?hg (N := 6) ?hd (cs := #[.slice none 0 0, .slice none 0 0, .slice none 0 0, .int .i64 0]) (t := 44) ?hr ?_; (case hd => rfl); (case hg => rfl); (case hr => first | (go_simp; done) | (go_simp; rfl)); intro gb1226 hg w6 hbox hb; have BK1226 := Aside0.mk (hbox); have GW1226 := Aside0.mk ((by rw [hg]; exact (below_size (bs1 HB GE1225)) : w.heap.size ≤ gb1226)); have GE1226 := Aside0.mk ((by rw [hg]; exact (below_size (bs1 HB GE1225)) : w.heap.size ≤ gb1226)); replace HB := Aside0.mk (below_step (bs1 HB GE1225) hb); have NB1225_1226 := Aside0.mk ((bn BK1225 hg : gb1225 ≠ gb1226)); have NB1226_1225 := Aside0.mk ((bm BK1225 hg : gb1226 ≠ gb1225)); replace BK1225 := nb BK1225 hb; clear hb hbox hg))
 (try simp only [Act.put, List.setIfInBounds_toArray, List.set_cons_zero, List.set_cons_succ])
 go_cut [22] (fun v22 wc => ∃ (kq : Nat) (x22_3 : Bool), v22 = .bool x22_3 ∧ Aside0 (spec_CrashStore.j0 kq l1 a2 x22_3 l0_0 l0_1 l0_2 a0_3 = some (r1, r2, r3, r4, r5)) ∧ Aside0 (kq ≤ k) ∧ Aside0 (wc.heap[gb1225]? = some (.cells #[(.slice A0_0 l0_0.length c0_0), (.slice A0_1 l0_1.length c0_1), (.slice A0_2 l0_2.length c0_2), .int .i64 a0_3] 44 (0, 0))) ∧ Aside0 (wc.heap[gb1226]? = some (.cells #[(.slice none 0 0), (.slice none 0 0), (.slice none 0 0), .int .i64 0] 44 (0, 0))) ∧ Aside0 (Below w.heap.size w wc))
 case first =>
  have H := HC4.out
  clear HC4
  replace H := Option.bind_eq_some_iff.mp H
  obtain ⟨t1227, A70, H⟩ := H
  replace H : (if t1227 = true then ((spec_l1In.f a2 a0_3 (l0_2.length : Int)).bind fun t1228 => (spec_CrashStore.j0 k l1 a2 (!t1228) l0_0 l0_1 l0_2 a0_3)) else (spec_CrashStore.j0 k l1 a2 true l0_0 l0_1 l0_2 a0_3)) = some (r1, r2, r3, r4, r5) := H
  have A7 := Aside0.mk A70
  clear A70
  by_cases c8 : t1227 = true
  ·
   subst c8
   rw [if_pos rfl] at H
   replace H := Option.bind_eq_some_iff.mp H
   obtain ⟨t1228, A90, H⟩ := H
   replace H : (spec_CrashStore.j0 k l1 a2 (!t1228) l0_0 l0_1 l0_2 a0_3) = some (r1, r2, r3, r4, r5) := H
   have A9 := Aside0.mk A90
   clear A90
   have H' := Aside0.mk H
   clear H
   have hnb10 := NB1225_1226.out
   have hnc10 := NB1226_1225.out
   obtain ⟨hcz11_0, hcz11_1, hcz11_2, hcz11_3⟩ := cz4 BK1225
   obtain ⟨hfz11_0, hfz11_1, hfz11_2, hfz11_3⟩ := fz4 BK1225
   go_wp2_with (first | ((with_reducible refine gate_callee (f := 26) rfl ?_); refine gL (some 11) rfl rfl Try.func26 (by kernel_rfl) rfl #[.agg #[.slice A0_0 l0_0.length c0_0, .slice A0_1 l0_1.length c0_1, .slice A0_2 l0_2.length c0_2, .int .i64 a0_3]] rfl ?_; (with_reducible refine (spec_GoodStore.calls k _ _ l0_0 _ _ l0_1 _ _ l0_2 a0_3 true _ ?side1 ?side2 ?side3 ?side4 ?side5 ?side6 A7.out).mono ?_); (case side1 => exact cb HR0_0 HB); (case side2 => exact HC0_0.out); (case side3 => exact cb HR0_1 HB); (case side4 => exact HC0_1.out); (case side5 => exact cb HR0_2 HB); (case side6 => exact HC0_2.out); rintro e w12 ⟨rfl, hb⟩; refine ⟨_, rfl, ?_⟩; replace BK1225 := nb BK1225 hb; replace BK1226 := nb BK1226 hb; replace HB := Aside0.mk (below_step (bs2 HB GE1225 GE1226) hb); (try clear hb); (try clear hb2); (try clear hk); (try clear hi); obtain ⟨hcz13_0, hcz13_1, hcz13_2, hcz13_3⟩ := cz4 BK1225; obtain ⟨hfz13_0, hfz13_1, hfz13_2, hfz13_3⟩ := fz4 BK1225) | (go_at_call 72; (with_reducible refine (spec_l1In.calls a2 a0_3 (l0_2.length : Int) t1228 _ A9.out).mono ?_); rintro e w' ⟨rfl, ⟨nd, rfl⟩⟩))
   go_meet
   case rel => exact ⟨_, (!t1228), (by first | rfl | (simp; done) | (simp [*]; done)), H', ⟨by first | omega | exact Nat.le_refl _⟩, ⟨bk BK1225⟩, ⟨bk BK1226⟩, ⟨bs2 HB GE1225 GE1226⟩⟩
  ·
   replace c8 := Bool.eq_false_iff.mpr c8
   subst c8
   rw [if_neg (show ¬ (false = true) by decide)] at H
   have H' := Aside0.mk H
   clear H
   have hnb14 := NB1225_1226.out
   have hnc14 := NB1226_1225.out
   obtain ⟨hcz15_0, hcz15_1, hcz15_2, hcz15_3⟩ := cz4 BK1225
   obtain ⟨hfz15_0, hfz15_1, hfz15_2, hfz15_3⟩ := fz4 BK1225
   go_wp2_with (first | ((with_reducible refine gate_callee (f := 26) rfl ?_); refine gL (some 11) rfl rfl Try.func26 (by kernel_rfl) rfl #[.agg #[.slice A0_0 l0_0.length c0_0, .slice A0_1 l0_1.length c0_1, .slice A0_2 l0_2.length c0_2, .int .i64 a0_3]] rfl ?_; (with_reducible refine (spec_GoodStore.calls k _ _ l0_0 _ _ l0_1 _ _ l0_2 a0_3 false _ ?side1 ?side2 ?side3 ?side4 ?side5 ?side6 A7.out).mono ?_); (case side1 => exact cb HR0_0 HB); (case side2 => exact HC0_0.out); (case side3 => exact cb HR0_1 HB); (case side4 => exact HC0_1.out); (case side5 => exact cb HR0_2 HB); (case side6 => exact HC0_2.out); rintro e w16 ⟨rfl, hb⟩; refine ⟨_, rfl, ?_⟩; replace BK1225 := nb BK1225 hb; replace BK1226 := nb BK1226 hb; replace HB := Aside0.mk (below_step (bs2 HB GE1225 GE1226) hb); (try clear hb); (try clear hb2); (try clear hk); (try clear hi)))
   go_meet
   case rel => exact ⟨_, (true), (by first | rfl | (simp; done) | (simp [*]; done)), H', ⟨by first | omega | exact Nat.le_refl _⟩, ⟨bk BK1225⟩, ⟨bk BK1226⟩, ⟨bs2 HB GE1225 GE1226⟩⟩
 case rest =>
  clear HC4
  try clear c1
  try clear c2
  try clear p2
  try clear c4
  try clear c8
  try clear c10
  try clear c14
  try clear hcz11_0 hcz11_1 hcz11_2 hcz11_3
  try clear hcz13_0 hcz13_1 hcz13_2 hcz13_3
  try clear hcz15_0 hcz15_1 hcz15_2 hcz15_3
  try clear hfz11_0 hfz11_1 hfz11_2 hfz11_3
  try clear hfz13_0 hfz13_1 hfz13_2 hfz13_3
  try clear hfz15_0 hfz15_1 hfz15_2 hfz15_3
  obtain ⟨kq, x22_3, rfl, HA, HJ3, BK1225, BK1226, HB⟩ := hcut
  cases kq with
  | zero => exact absurd HA.out (by simp [spec_CrashStore.j0])
  | succ kj3 =>
   have H := HA.out
   clear HA
   simp only [spec_CrashStore.j0] at H
   by_cases c17 : x22_3 = true
   ·
    subst c17
    rw [if_pos rfl] at H
    simp only [Option.some.injEq, Prod.mk.injEq] at H
    obtain ⟨rfl, rfl, rfl, rfl, rfl⟩ := H
    have hnb18 := NB1226_1225.out
    have hnc18 := NB1225_1226.out
    obtain ⟨hcz19_0, hcz19_1, hcz19_2, hcz19_3⟩ := cz4 BK1226
    obtain ⟨hfz19_0, hfz19_1, hfz19_2, hfz19_3⟩ := fz4 BK1226
    go_wp2
    refine bodyPost_ret (results_ct rfl _ _ gb1226 44 #[.slice none 0 0, .slice none 0 0, .slice none 0 0, .int .i64 0] (0, 0) _ rfl (by (with_reducible repeat (first | refine blk_drewN ?_ _ | refine blk_drew ?_ | refine blk_alloc ?_ _)); refine blk_put (cs := #[.slice none 0 0, .slice none 0 0, .slice none 0 0, .int .i64 0]) ?_ 3 _ rfl; (with_reducible repeat (first | refine blk_drewN ?_ _ | refine blk_drew ?_ | refine blk_alloc ?_ _)); refine blk_put (cs := #[.slice none 0 0, .slice none 0 0, .slice none 0 0, .int .i64 0]) ?_ 2 _ rfl; (with_reducible repeat (first | refine blk_drewN ?_ _ | refine blk_drew ?_ | refine blk_alloc ?_ _)); refine blk_put (cs := #[.slice none 0 0, .slice none 0 0, .slice none 0 0, .int .i64 0]) ?_ 1 _ rfl; (with_reducible repeat (first | refine blk_drewN ?_ _ | refine blk_drew ?_ | refine blk_alloc ?_ _)); refine blk_put (cs := #[.slice none 0 0, .slice none 0 0, .slice none 0 0, .int .i64 0]) ?_ 0 _ rfl; (with_reducible repeat (first | refine blk_drewN ?_ _ | refine blk_drew ?_ | refine blk_alloc ?_ _)); exact BK1226.out) Try.underlying44 rfl (by kernel_rfl)) rfl ?_
    exact ⟨_, _, _, by first | rfl | (simp [errW_none, errW_some] <;> rfl) | (simp [*, errW_none, errW_some] <;> rfl), by first | exact Kd.R_nil _ _ _ _ _ | exact Kd.N_nil _ _ _ _ _ | exact Kd.V_nil _ _ _ _ _ | exact Kd.Q_nil _ _ _ _ _ | exact Kd.S_nil _ _ _ _ _, by first | exact Kd.R_nil _ _ _ _ _ | exact Kd.N_nil _ _ _ _ _ | exact Kd.V_nil _ _ _ _ _ | exact Kd.Q_nil _ _ _ _ _ | exact Kd.S_nil _ _ _ _ _, by first | exact Kd.R_nil _ _ _ _ _ | exact Kd.N_nil _ _ _ _ _ | exact Kd.V_nil _ _ _ _ _ | exact Kd.Q_nil _ _ _ _ _ | exact Kd.S_nil _ _ _ _ _, bs2 HB GE1225 GE1226⟩
   ·
    replace c17 := Bool.eq_false_iff.mpr c17
    subst c17
    rw [if_neg (show ¬ (false = true) by decide)] at H
    replace H := Option.bind_eq_some_iff.mp H
    obtain ⟨⟨t1229, t1232, t1235⟩, A200, H⟩ := H
    replace H : (if t1235 = true then ((some (([] : List ByteArray) : List ByteArray)).bind fun y1237 => (if 0 ≤ a2 then (if a2 ≤ (l0_2.length : Int) then (if y1237.length + (l0_2.take (a2 : Int).toNat).length < 8796093022208 then (some (t1229, t1232, (y1237 ++ (l0_2.take (a2 : Int).toNat)), a2, true)) else (none)) else (none)) else (none))) else (some (([] : List ByteArray), ([] : List (S72)), ([] : List ByteArray), 0, false))) = some (r1, r2, r3, r4, r5) := H
    have A20 := Aside0.mk A200
    clear A200
    by_cases c21 : t1235 = true
    ·
     subst c21
     rw [if_pos rfl] at H
     obtain ⟨y1237, hy1237⟩ : ∃ y_ : List ByteArray, y_ = (([] : List ByteArray)) := ⟨_, rfl⟩
     replace H : (if 0 ≤ a2 then (if a2 ≤ (l0_2.length : Int) then (if y1237.length + (l0_2.take (a2 : Int).toNat).length < 8796093022208 then (some (t1229, t1232, (y1237 ++ (l0_2.take (a2 : Int).toNat)), a2, true)) else (none)) else (none)) else (none)) = some (r1, r2, r3, r4, r5) := by first | (rw [hy1237]; with_reducible exact H) | (have H2_ := (Option.bind_some _ _).symm.trans H; rw [hy1237]; with_reducible exact H2_) | (have H2_ := (Option.bind_some _ _).symm.trans H; with_reducible exact H2_) | with_reducible exact H | (rw [hy1237]; exact H) | exact H
     have Ny1237 := Aside0.mk hy1237
     clear hy1237
     by_cases c22 : 0 ≤ a2
     ·
      rw [if_pos c22] at H
      have c22b0 := eq_true c22
      have c22b1 : decide (0 ≤ a2) = true := decide_eq_true c22
      clear c22
      by_cases c23 : a2 ≤ (l0_2.length : Int)
      ·
       rw [if_pos c23] at H
       have c23b0 := eq_true c23
       have c23b1 : decide (a2 ≤ (l0_2.length : Int)) = true := decide_eq_true c23
       clear c23
       by_cases c24 : y1237.length + (l0_2.take (a2 : Int).toNat).length < 8796093022208
       ·
        rw [if_pos c24] at H
        have LMc24 := Aside0.mk c24
        clear c24
        obtain ⟨y1241, hy1241⟩ : ∃ y_ : List ByteArray, y_ = (y1237 ++ (l0_2.take (a2 : Int).toNat)) := ⟨_, rfl⟩
        replace H : (some (t1229, t1232, y1241, a2, true)) = some (r1, r2, r3, r4, r5) := by first | (rw [hy1241]; with_reducible exact H) | (have H2_ := (Option.bind_some _ _).symm.trans H; rw [hy1241]; with_reducible exact H2_) | (have H2_ := (Option.bind_some _ _).symm.trans H; with_reducible exact H2_) | with_reducible exact H | (rw [hy1241]; exact H) | exact H
        have Ny1241 := Aside0.mk hy1241
        clear hy1241
        simp only [Option.some.injEq, Prod.mk.injEq] at H
        obtain ⟨rfl, rfl, rfl, rfl, rfl⟩ := H
        have hnb25 := NB1225_1226.out
        have hnc25 := NB1226_1225.out
        obtain ⟨hcz26_0, hcz26_1, hcz26_2, hcz26_3⟩ := cz4 BK1225
        obtain ⟨hfz26_0, hfz26_1, hfz26_2, hfz26_3⟩ := fz4 BK1225
        try go_wp2_with (first | ((with_reducible refine gate_callee (f := 98) rfl ?_); refine gL (some 28) rfl rfl Try.func98 (by kernel_rfl) rfl #[.agg #[.slice A0_0 l0_0.length c0_0, .slice A0_1 l0_1.length c0_1], .slice A1 l1.length c1] rfl ?_; (with_reducible refine (spec_CrashDevice.calls kj3 _ _ l0_0 _ _ l0_1 _ _ l1 t1229 t1232 true _ ?side1 ?side2 ?side3 ?side4 ?side5 ?side6 A20.out).mono ?_); (case side1 => exact cb HR0_0 HB); (case side2 => exact HC0_0.out); (case side3 => exact cb HR0_1 HB); (case side4 => exact HC0_1.out); (case side5 => exact cb HR1 HB); (case side6 => exact HC1.out); rintro e w27 ⟨v1230, v1233, rfl, ho0, ho1, hb⟩; refine ⟨_, rfl, ?_⟩; have HO1231 := Aside0.mk (Kd.R_lower ho0 (below_size (bs2 HB GE1225 GE1226))); have HO1234 := Aside0.mk (Kd.R_lower ho1 (below_size (bs2 HB GE1225 GE1226))); replace BK1225 := nb BK1225 hb; replace BK1226 := nb BK1226 hb; replace HB := Aside0.mk (below_step (bs2 HB GE1225 GE1226) hb); (try clear hb); (try clear hb2); (try clear hk); (try clear hi); (try clear ho0); (try clear ho1)) | ((with_reducible refine gate_dst (N := 8) rfl ?_); (try (refine gate_guard (by rfl) ?_; dsimp only)); refine box_event ?hg (N := 8) ?hd (cs := #[.slice none 0 0, .slice none 0 0]) (t := 42) ?hr ?_; (case hd => rfl); (case hg => rfl); (case hr => first | (go_simp; done) | (go_simp; rfl)); intro gb1236 hg w28 hbox hb; replace HO1231 := nr HO1231 hb; replace HO1234 := nr HO1234 hb; have BK1236 := Aside0.mk (hbox); have GW1236 := Aside0.mk ((by rw [hg]; exact (below_size (bs2 HB GE1225 GE1226)) : w.heap.size ≤ gb1236)); have GE1236 := Aside0.mk ((by rw [hg]; exact (below_size (bs2 HB GE1225 GE1226)) : w.heap.size ≤ gb1236)); replace HB := Aside0.mk (below_step (bs2 HB GE1225 GE1226) hb); have NB1225_1236 := Aside0.mk ((bn BK1225 hg : gb1225 ≠ gb1236)); have NB1236_1225 := Aside0.mk ((bm BK1225 hg : gb1236 ≠ gb1225)); replace BK1225 := nb BK1225 hb; have NB1226_1236 := Aside0.mk ((bn BK1226 hg : gb1226 ≠ gb1236)); have NB1236_1226 := Aside0.mk ((bm BK1226 hg : gb1236 ≠ gb1226)); replace BK1226 := nb BK1226 hb; clear hb hbox hg; obtain ⟨Ao29, co29, eo29⟩ := Kd.R_slice HO1231.out; subst eo29; have hnb30 := NB1236_1225.out; have hnc30 := NB1225_1236.out; have hnb31 := NB1236_1226.out; have hnc31 := NB1226_1236.out; obtain ⟨hcz32_0, hcz32_1⟩ := cz2 BK1236; obtain ⟨hfz32_0, hfz32_1⟩ := fz2 BK1236; obtain ⟨Ao33, co33, eo33⟩ := Kd.R_slice HO1234.out; subst eo33))
        have n0_ : Aside0 (Kd.R Kd.string 9 ((w28.setCell ⟨gb1236, 0, none⟩ (.slice Ao29 t1229.length co29)).setCell ⟨gb1236, 1, none⟩ (.slice Ao33 t1232.length co33)) w.heap.size (fun _ => True) (.slice Ao29 t1229.length co29) t1229) := ⟨by (with_reducible repeat (first | apply Kd.R_alloc | apply Kd.R_drewN | apply Kd.R_drew)); exact Kd.R_mono (Kd.R_far (p := ⟨gb1236, 1, none⟩) (Kd.R_far (p := ⟨gb1236, 0, none⟩) (Kd.R_types HO1231.out BK1236.out (by decide)) (fun _ hk => hk.2) (.slice Ao29 t1229.length co29)) (fun _ hk => hk.2) (.slice Ao33 t1232.length co33)) (fun _ hk => trivial)⟩
        have n1_ : Aside0 (Kd.R k72 72 ((w28.setCell ⟨gb1236, 0, none⟩ (.slice Ao29 t1229.length co29)).setCell ⟨gb1236, 1, none⟩ (.slice Ao33 t1232.length co33)) w.heap.size (fun _ => True) (.slice Ao33 t1232.length co33) t1232) := ⟨by (with_reducible repeat (first | apply Kd.R_alloc | apply Kd.R_drewN | apply Kd.R_drew)); exact Kd.R_mono (Kd.R_far (p := ⟨gb1236, 1, none⟩) (Kd.R_far (p := ⟨gb1236, 0, none⟩) (Kd.R_types HO1234.out BK1236.out (by decide)) (fun _ hk => hk.2) (.slice Ao29 t1229.length co29)) (fun _ hk => hk.2) (.slice Ao33 t1232.length co33)) (fun _ hk => trivial)⟩
        have n2_ : Aside0 (((w28.setCell ⟨gb1236, 0, none⟩ (.slice Ao29 t1229.length co29)).setCell ⟨gb1236, 1, none⟩ (.slice Ao33 t1232.length co33)).heap[gb1225]? = some (.cells #[.slice A0_0 l0_0.length c0_0, .slice A0_1 l0_1.length c0_1, .slice A0_2 l0_2.length c0_2, .int .i64 a0_3] 44 (0, 0))) := ⟨bf BK1225 NB1225_1236⟩
        have n3_ : Aside0 (((w28.setCell ⟨gb1236, 0, none⟩ (.slice Ao29 t1229.length co29)).setCell ⟨gb1236, 1, none⟩ (.slice Ao33 t1232.length co33)).heap[gb1226]? = some (.cells #[.slice none 0 0, .slice none 0 0, .slice none 0 0, .int .i64 0] 44 (0, 0))) := ⟨bf BK1226 NB1226_1236⟩
        have n4_ : Aside0 (((w28.setCell ⟨gb1236, 0, none⟩ (.slice Ao29 t1229.length co29)).setCell ⟨gb1236, 1, none⟩ (.slice Ao33 t1232.length co33)).heap[gb1236]? = some (.cells #[.slice Ao29 t1229.length co29, .slice Ao33 t1232.length co33] 42 (0, 0))) := ⟨by (with_reducible repeat (first | refine blk_drewN ?_ _ | refine blk_drew ?_ | refine blk_alloc ?_ _)); refine blk_put (cs := #[.slice Ao29 t1229.length co29, .slice none 0 0]) ?_ 1 _ rfl; (with_reducible repeat (first | refine blk_drewN ?_ _ | refine blk_drew ?_ | refine blk_alloc ?_ _)); refine blk_put (cs := #[.slice none 0 0, .slice none 0 0]) ?_ 0 _ rfl; (with_reducible repeat (first | refine blk_drewN ?_ _ | refine blk_drew ?_ | refine blk_alloc ?_ _)); exact BK1236.out⟩
        have n5_ : Aside0 (Below w.heap.size w ((w28.setCell ⟨gb1236, 0, none⟩ (.slice Ao29 t1229.length co29)).setCell ⟨gb1236, 1, none⟩ (.slice Ao33 t1232.length co33))) := ⟨bs3 HB GE1225 GE1226 GE1236⟩
        (try clear HO1231)
        (try clear HO1234)
        (try clear BK1225)
        (try clear BK1226)
        (try clear BK1236)
        (try clear HB)
        generalize ((w28.setCell ⟨gb1236, 0, none⟩ (.slice Ao29 t1229.length co29)).setCell ⟨gb1236, 1, none⟩ (.slice Ao33 t1232.length co33)) = w34 at n0_ n1_ n2_ n3_ n4_ n5_ ⊢
        have HO1231 := n0_
        have HO1234 := n1_
        have BK1225 := n2_
        have BK1226 := n3_
        have BK1236 := n4_
        have HB := n5_
        clear n0_ n1_ n2_ n3_ n4_ n5_
        have n0_ := Aside0.mk (Kd.R_drew HO1231.out)
        have n1_ := Aside0.mk (Kd.R_drew HO1234.out)
        have n2_ := Aside0.mk (blk_drew BK1225.out)
        have n3_ := Aside0.mk (blk_drew BK1226.out)
        have n4_ := Aside0.mk (blk_drew BK1236.out)
        have n5_ := Aside0.mk (below_drew1 HB.out)
        clear HO1231
        clear HO1234
        clear BK1225
        clear BK1226
        clear BK1236
        clear HB
        have HO1231 := n0_
        have HO1234 := n1_
        have BK1225 := n2_
        have BK1226 := n3_
        have BK1236 := n4_
        have HB := n5_
        clear n0_ n1_ n2_ n3_ n4_ n5_
        obtain ⟨i036, hi036, _, hsz36, _⟩ := info_parts info9
        obtain ⟨hcut36, hA36, hC36⟩ := print_take_of (P := Try.prog) Value.string (⟨#[]⟩ : ByteArray) 34 9 .i64 Try.underlying34 hi036 hsz36 A0_2 c0_2 l0_2 a2 (of_decide_eq_true (by first | (with_reducible assumption) | assumption)) (of_decide_eq_true (by first | (with_reducible assumption) | assumption)) HC0_2.out
        have HR1240 := Aside0.mk (Kd.C_of_reads (h1 := fun _ => rfl) (hA36 _ (Kd.reads_of_C HR0_2.out)))
        have HC1240 := Aside0.mk hC36
        clear hA36 hC36 hi036 hsz36
        refine start_ (n := 11) (S := fun w' => w'.cell? ⟨gb1236, 0, none⟩ = some (.slice Ao29 t1229.length co29) ∧ w'.cell? ⟨gb1236, 1, none⟩ = some (.slice Ao33 t1232.length co33) ∧ w'.cell? ⟨gb1225, 0, none⟩ = some (.slice A0_0 l0_0.length c0_0) ∧ w'.cell? ⟨gb1225, 1, none⟩ = some (.slice A0_1 l0_1.length c0_1) ∧ w'.cell? ⟨gb1225, 2, none⟩ = some (.slice A0_2 l0_2.length c0_2) ∧ w'.cell? ⟨gb1225, 3, none⟩ = some (.int .i64 a0_3)) (ds := []) #[false, false, false, false, false, false, false, false, false, false, false] (by kernel_rfl) rfl rfl ⟨(blk_cell BK1236.out 0).trans rfl, (blk_cell BK1236.out 1).trans rfl, (blk_cell BK1225.out 0).trans rfl, (blk_cell BK1225.out 1).trans rfl, (blk_cell BK1225.out 2).trans rfl, (blk_cell BK1225.out 3).trans rfl⟩ (fun hHeld => ?_); refine with_tabW spec_CrashStore.tab6 spec_CrashStore.bits6 (fun HT_ HW_ => ?_)
        generalize w34.drew = w35 at HO1231 HO1234 BK1225 BK1226 BK1236 HB HR1240 hHeld ⊢
        refine pure_ (i := 2) (N := some 36) (v := ?_) (a' := ?_) #[false, false, true, false, false, false, false, false, false, false, false] rfl rfl (any_of HT_.out (by kernel_rfl)) (fun _ _ _ h => h) (Or.inl ⟨by rfl, ?_⟩) ?_ ?_
        rotate_left
        ·
         intro w'
         go_simp
         with_reducible rfl
        rotate_left
        ·
         simp only [Act.put, List.setIfInBounds_toArray, List.set_cons_zero, List.set_cons_succ, i64_w, i32_w]
         rfl
        refine pure_ (i := 4) (N := some 38) (v := ?_) (a' := ?_) #[false, false, true, false, true, false, false, false, false, false, false] rfl rfl (any_of HT_.out (by kernel_rfl)) (fun _ _ _ h => h) (Or.inl ⟨by rfl, ?_⟩) ?_ ?_
        rotate_left
        ·
         intro w'
         go_simp
         with_reducible rfl
        rotate_left
        ·
         simp only [Act.put, List.setIfInBounds_toArray, List.set_cons_zero, List.set_cons_succ, i64_w, i32_w]
         rfl
        refine pure_ (i := 7) (N := some 41) (v := ?_) (a' := ?_) #[false, false, true, false, true, false, false, true, false, false, false] rfl rfl (any_of HT_.out (by kernel_rfl)) (fun _ _ _ h => h) (Or.inl ⟨by rfl, ?_⟩) ?_ ?_
        rotate_left
        ·
         intro w'
         go_simp
         with_reducible rfl
        rotate_left
        ·
         simp only [Act.put, List.setIfInBounds_toArray, List.set_cons_zero, List.set_cons_succ, i64_w, i32_w]
         rfl
        refine take_ (i := 0) (N := some 34) (v := ?_) (a' := ?_) #[true, false, true, false, true, false, false, true, false, false, false] rfl rfl (take_ofW HT_.out HW_.out (by kernel_rfl)) (fun _ _ _ h => h) (Or.inl ⟨by rfl, ?_⟩) hHeld ?_ ?_
        rotate_left
        ·
         rintro w' ⟨s0, s1, s2, s3, s4, s5⟩
         go_simp
         with_reducible rfl
        rotate_left
        ·
         simp only [Act.put, List.setIfInBounds_toArray, List.set_cons_zero, List.set_cons_succ, i64_w, i32_w]
         rfl
        refine take_ (i := 3) (N := some 37) (v := ?_) (a' := ?_) #[true, false, true, true, true, false, false, true, false, false, false] rfl rfl (take_ofW HT_.out HW_.out (by kernel_rfl)) (fun _ _ _ h => h) (Or.inl ⟨by rfl, ?_⟩) hHeld ?_ ?_
        rotate_left
        ·
         rintro w' ⟨s0, s1, s2, s3, s4, s5⟩
         go_simp
         with_reducible rfl
        rotate_left
        ·
         simp only [Act.put, List.setIfInBounds_toArray, List.set_cons_zero, List.set_cons_succ, i64_w, i32_w]
         rfl
        refine pure_ (i := 5) (N := some 39) (v := ?_) (a' := ?_) #[true, false, true, true, true, true, false, true, false, false, false] rfl rfl (any_of HT_.out (by kernel_rfl)) (fun _ _ _ h => h) (Or.inl ⟨by rfl, ?_⟩) ?_ ?_
        rotate_left
        ·
         intro w'
         go_simp
         with_reducible rfl
        rotate_left
        ·
         simp only [Act.put, List.setIfInBounds_toArray, List.set_cons_zero, List.set_cons_succ, i64_w, i32_w]
         rfl
        refine one_ (i := 1) (N := some 35) #[true, true, true, true, true, true, false, true, false, false, false] rfl rfl (one_of HT_.out (by kernel_rfl)) (by decide) (fun K hK => ?_)
        refine Kd.R_lit_step Kd.string _ 9 ?hg (N := 35) ?hd (xs := ([] : List ByteArray)) (inner := []) (ok := fun _ => True) (okp := fun _ => True) ?hr ?hp (fun _ hk => hk) trivial (Below.refl _ _) (Nat.le_refl _) (by simp) ?_; (case hd => rfl); (case hg => rfl); (case hr => first | (go_simp; done) | (go_simp; rfl)); (case hp => exact (Reps.none _ _))
        intro v1238 w37 ho38 hb hg_ hnew_
        clear hg_ hnew_
        (first | rw [← Ny1237.out] at ho38 | (simp only [Int.reduceToNat] at ho38; rw [← Ny1237.out] at ho38))
        have n0_ := Aside0.mk (Kd.R_elder' (rr HO1231.out) (Kd.R_base ho38) hb)
        have n1_ := Aside0.mk (Kd.R_below (rr HO1234.out) hb)
        have n2_ := Aside0.mk (Kd.R_lower (Kd.R_new' ho38 (Kd.R_lt (rr HO1231.out))) (below_size (bs3 HB GE1225 GE1226 GE1236)))
        have n3_ := Aside0.mk (bb BK1225 hb)
        have n4_ := Aside0.mk (bb BK1226 hb)
        have n5_ := Aside0.mk (bb BK1236 hb)
        have n6_ := Aside0.mk (below_step (bs3 HB GE1225 GE1226 GE1236) hb)
        clear HO1231
        clear HO1234
        clear BK1225
        clear BK1226
        clear BK1236
        clear HB
        have HO1231 := n0_
        have HO1234 := n1_
        have HO1239 := n2_
        have BK1225 := n3_
        have BK1226 := n4_
        have BK1236 := n5_
        have HB := n6_
        clear n0_ n1_ n2_ n3_ n4_ n5_ n6_
        clear hb ho38
        refine hK.out _ _ ⟨(blk_cell BK1236.out 0).trans rfl, (blk_cell BK1236.out 1).trans rfl, (blk_cell BK1225.out 0).trans rfl, (blk_cell BK1225.out 1).trans rfl, (blk_cell BK1225.out 2).trans rfl, (blk_cell BK1225.out 3).trans rfl⟩ (fun hHeld => ?_)
        clear hK K
        refine norm_ (a' := ?_) ?_ ?_
        rotate_left
        ·
         show Act.put _ (some 35) _ = _
         simp only [Act.put, List.setIfInBounds_toArray, List.set_cons_zero, List.set_cons_succ, i64_w, i32_w]
         rfl
        refine one_ (i := 6) (N := some 40) #[true, true, true, true, true, true, true, true, false, false, false] rfl rfl (one_of HT_.out (by kernel_rfl)) (by decide) (fun K hK => ?_)
        refine Kd.R_append_rows_step Kd.string (w0 := w) w.heap.size (by rfl) (.tmp 35) (.tmp 39) 34 9 (.string ⟨#[]⟩) 16 rfl Try.underlying34 info9 rfl (by decide) (by omega) v1238 y1237 (l0_2.take (a2 : Int).toNat) _ _ _ (fun k_ => some k_ ≠ (.slice Ao29 t1229.length co29 : Value).ownBlock) (fun _ => False) rfl rfl ?aO ?aR (fun _ _ h => h) (fun _ h => h.elim) ?aF ?aB ?aS ?aL ?_
        (case aR => first | (exact cbn HR1240 HB (show (l0_2.take (a2 : Int).toNat).length = a2.toNat from (by rw [List.length_take]; have h_ : (a2 : Int) ≤ (l0_2.length : Int) := of_decide_eq_true (by first | (with_reducible assumption) | assumption); omega))) | (exact cb HR1240 HB))
        (case aB => exact (bs3 HB GE1225 GE1226 GE1236))
        (case aF => exact (fun k_ hk => Kd.fresh' (Kd.R_lt (rr HO1231.out)) k_ hk))
        (case aO => exact (by (with_reducible repeat (first | apply Kd.R_alloc | apply Kd.R_drewN | apply Kd.R_drew)); exact Kd.R_mono HO1239.out (fun _ hk => hk.2)))
        (case aS => exact (below_size (bs3 HB GE1225 GE1226 GE1236)))
        (case aL => have := LMc24.out; have hlx_ := (show (l0_2.take (a2 : Int).toNat).length = a2.toNat from (by rw [List.length_take]; have h_ : (a2 : Int) ≤ (l0_2.length : Int) := of_decide_eq_true (by first | (with_reducible assumption) | assumption); omega)); omega)
        intro v1242 w39 ho hb hg hat
        rw [← Ny1241.out] at ho
        have n0_ := Aside0.mk (blk_grown (g := gb1225) (o := .cells #[.slice A0_0 l0_0.length c0_0, .slice A0_1 l0_1.length c0_1, .slice A0_2 l0_2.length c0_2, .int .i64 a0_3] 44 (0, 0)) (bk BK1225) hg (Kd.R_ne HO1239.out BK1225.out (by decide)))
        have n1_ := Aside0.mk (blk_grown (g := gb1226) (o := .cells #[.slice none 0 0, .slice none 0 0, .slice none 0 0, .int .i64 0] 44 (0, 0)) (bk BK1226) hg (Kd.R_ne HO1239.out BK1226.out (by decide)))
        have n2_ := Aside0.mk (Kd.R_after (ok := (fun _ => True)) (rr HO1231.out) hg hat)
        have n3_ := Aside0.mk (Kd.R_over' (rr HO1234.out) (Kd.R_typed (rr HO1239.out)) (by decide) hg)
        have n4_ := Aside0.mk (blk_grown (g := gb1236) (o := .cells #[.slice Ao29 t1229.length co29, .slice Ao33 t1232.length co33] 42 (0, 0)) (bk BK1236) hg (Kd.R_ne HO1239.out BK1236.out (by decide)))
        have n5_ := Aside0.mk (hb)
        have n6_ := Aside0.mk (ho)
        clear BK1225
        clear BK1226
        clear HO1231
        clear HO1234
        clear BK1236
        clear HB
        clear HO1239
        have BK1225 := n0_
        have BK1226 := n1_
        have HO1231 := n2_
        have HO1234 := n3_
        have BK1236 := n4_
        have HB := n5_
        have HO1243 := n6_
        clear n0_ n1_ n2_ n3_ n4_ n5_ n6_
        clear ho hb hg hat
        obtain ⟨Ao40, co40, eo40⟩ := Kd.R_slice HO1243.out
        (first | subst eo40 | (injection eo40 with f1_ f2_ f3_; have f4_ := f1_.symm; have f5_ := f3_.symm; clear f1_ f2_ f3_; subst f4_; subst f5_))
        refine hK.out _ _ ⟨(blk_cell BK1236.out 0).trans rfl, (blk_cell BK1236.out 1).trans rfl, (blk_cell BK1225.out 0).trans rfl, (blk_cell BK1225.out 1).trans rfl, (blk_cell BK1225.out 2).trans rfl, (blk_cell BK1225.out 3).trans rfl⟩ (fun hHeld => ?_)
        clear hK K
        refine norm_ (a' := ?_) ?_ ?_
        rotate_left
        ·
         show Act.put _ (some 40) _ = _
         simp only [Act.put, List.setIfInBounds_toArray, List.set_cons_zero, List.set_cons_succ, i64_w, i32_w]
         rfl
        refine pure_ (i := 8) (N := some 42) (v := ?_) (a' := ?_) #[true, true, true, true, true, true, true, true, true, false, false] rfl rfl (any_of HT_.out (by kernel_rfl)) (fun _ _ _ h => h) (Or.inl ⟨by rfl, ?_⟩) ?_ ?_
        rotate_left
        ·
         intro w'
         go_simp
         with_reducible rfl
        rotate_left
        ·
         simp only [Act.put, List.setIfInBounds_toArray, List.set_cons_zero, List.set_cons_succ, i64_w, i32_w]
         rfl
        refine one_ (i := 9) (N := none) #[true, true, true, true, true, true, true, true, true, true, false] rfl rfl (one_of HT_.out (by kernel_rfl)) (by decide) (fun K hK => ?_)
        have hs41 : w39.cell? ⟨gb1226, 0, none⟩ = some (.slice none 0 0) := (blk_cell BK1226.out 0).trans rfl
        have hfs41 := blk_frozen BK1226.out 0
        have hns41_0 := NB1225_1226.out
        have hns41_2 := NB1236_1226.out
        have hms41_0 := NB1226_1225.out
        have hms41_2 := NB1226_1236.out
        have hs42 : w39.cell? ⟨gb1226, 1, none⟩ = some (.slice none 0 0) := (blk_cell BK1226.out 1).trans rfl
        have hfs42 := blk_frozen BK1226.out 1
        have hns42_0 := NB1225_1226.out
        have hns42_2 := NB1236_1226.out
        have hms42_0 := NB1226_1225.out
        have hms42_2 := NB1226_1236.out
        have hs43 : w39.cell? ⟨gb1226, 2, none⟩ = some (.slice none 0 0) := (blk_cell BK1226.out 2).trans rfl
        have hfs43 := blk_frozen BK1226.out 2
        have hns43_0 := NB1225_1226.out
        have hns43_2 := NB1236_1226.out
        have hms43_0 := NB1226_1225.out
        have hms43_2 := NB1226_1236.out
        have hs44 : w39.cell? ⟨gb1226, 3, none⟩ = some (.int .i64 0) := (blk_cell BK1226.out 3).trans rfl
        have hfs44 := blk_frozen BK1226.out 3
        have hns44_0 := NB1225_1226.out
        have hns44_2 := NB1236_1226.out
        have hms44_0 := NB1226_1225.out
        have hms44_2 := NB1226_1236.out
        refine skip_ (w1 := ?_) (by rfl) rfl ?_ ?_
        rotate_left
        ·
         go_simp
         rfl
        refine hK.out _ _ ⟨((cell_far (p := ⟨gb1226, _, none⟩) NB1236_1226.out _).trans (((cell_far (p := ⟨gb1226, _, none⟩) NB1236_1226.out _).trans (((cell_far (p := ⟨gb1226, _, none⟩) NB1236_1226.out _).trans (((cell_far (p := ⟨gb1226, _, none⟩) NB1236_1226.out _).trans (hHeld.1)))))))), ((cell_far (p := ⟨gb1226, _, none⟩) NB1236_1226.out _).trans (((cell_far (p := ⟨gb1226, _, none⟩) NB1236_1226.out _).trans (((cell_far (p := ⟨gb1226, _, none⟩) NB1236_1226.out _).trans (((cell_far (p := ⟨gb1226, _, none⟩) NB1236_1226.out _).trans (hHeld.2.1)))))))), ((cell_far (p := ⟨gb1226, _, none⟩) NB1225_1226.out _).trans (((cell_far (p := ⟨gb1226, _, none⟩) NB1225_1226.out _).trans (((cell_far (p := ⟨gb1226, _, none⟩) NB1225_1226.out _).trans (((cell_far (p := ⟨gb1226, _, none⟩) NB1225_1226.out _).trans (hHeld.2.2.1)))))))), ((cell_far (p := ⟨gb1226, _, none⟩) NB1225_1226.out _).trans (((cell_far (p := ⟨gb1226, _, none⟩) NB1225_1226.out _).trans (((cell_far (p := ⟨gb1226, _, none⟩) NB1225_1226.out _).trans (((cell_far (p := ⟨gb1226, _, none⟩) NB1225_1226.out _).trans (hHeld.2.2.2.1)))))))), ((cell_far (p := ⟨gb1226, _, none⟩) NB1225_1226.out _).trans (((cell_far (p := ⟨gb1226, _, none⟩) NB1225_1226.out _).trans (((cell_far (p := ⟨gb1226, _, none⟩) NB1225_1226.out _).trans (((cell_far (p := ⟨gb1226, _, none⟩) NB1225_1226.out _).trans (hHeld.2.2.2.2.1)))))))), ((cell_far (p := ⟨gb1226, _, none⟩) NB1225_1226.out _).trans (((cell_far (p := ⟨gb1226, _, none⟩) NB1225_1226.out _).trans (((cell_far (p := ⟨gb1226, _, none⟩) NB1225_1226.out _).trans (((cell_far (p := ⟨gb1226, _, none⟩) NB1225_1226.out _).trans (hHeld.2.2.2.2.2))))))))⟩ (fun hHeld => ?_)
        clear hK K
        refine pure_ (i := 10) (N := some 7) (v := ?_) (a' := ?_) #[true, true, true, true, true, true, true, true, true, true, true] rfl rfl (any_of HT_.out (by kernel_rfl)) (fun _ _ _ h => h) (Or.inl ⟨by rfl, ?_⟩) ?_ ?_
        rotate_left
        ·
         intro w'
         go_simp
         with_reducible rfl
        rotate_left
        ·
         simp only [Act.put, List.setIfInBounds_toArray, List.set_cons_zero, List.set_cons_succ, i64_w, i32_w]
         rfl
        refine done_ (done_of HT_.out (by kernel_rfl)) ?_
        try go_wp2
        refine bodyPost_ret (results_ct rfl _ _ gb1226 44 #[.slice Ao29 t1229.length co29, .slice Ao33 t1232.length co33, .slice Ao40 y1241.length co40, .int .i64 a2] (0, 0) _ rfl (by (with_reducible repeat (first | refine blk_drewN ?_ _ | refine blk_drew ?_ | refine blk_alloc ?_ _)); refine blk_put (cs := #[.slice Ao29 t1229.length co29, .slice Ao33 t1232.length co33, .slice Ao40 y1241.length co40, .int .i64 0]) ?_ 3 _ rfl; (with_reducible repeat (first | refine blk_drewN ?_ _ | refine blk_drew ?_ | refine blk_alloc ?_ _)); refine blk_put (cs := #[.slice Ao29 t1229.length co29, .slice Ao33 t1232.length co33, .slice none 0 0, .int .i64 0]) ?_ 2 _ rfl; (with_reducible repeat (first | refine blk_drewN ?_ _ | refine blk_drew ?_ | refine blk_alloc ?_ _)); refine blk_put (cs := #[.slice Ao29 t1229.length co29, .slice none 0 0, .slice none 0 0, .int .i64 0]) ?_ 1 _ rfl; (with_reducible repeat (first | refine blk_drewN ?_ _ | refine blk_drew ?_ | refine blk_alloc ?_ _)); refine blk_put (cs := #[.slice none 0 0, .slice none 0 0, .slice none 0 0, .int .i64 0]) ?_ 0 _ rfl; (with_reducible repeat (first | refine blk_drewN ?_ _ | refine blk_drew ?_ | refine blk_alloc ?_ _)); exact BK1226.out) Try.underlying44 rfl (by kernel_rfl)) rfl ?_
        exact ⟨_, _, _, by first | rfl | (simp [errW_none, errW_some] <;> rfl) | (simp [*, errW_none, errW_some] <;> rfl), by (with_reducible repeat (first | apply Kd.R_alloc | apply Kd.R_drewN | apply Kd.R_drew)); exact Kd.R_mono (Kd.R_far (p := ⟨gb1226, 3, none⟩) (Kd.R_far (p := ⟨gb1226, 2, none⟩) (Kd.R_far (p := ⟨gb1226, 1, none⟩) (Kd.R_far (p := ⟨gb1226, 0, none⟩) (Kd.R_types HO1231.out BK1226.out (by decide)) (fun _ hk => hk.2) (.slice Ao29 t1229.length co29)) (fun _ hk => hk.2) (.slice Ao33 t1232.length co33)) (fun _ hk => hk.2) (.slice Ao40 y1241.length co40)) (fun _ hk => hk.2) (.int .i64 a2)) (fun _ hk => hk.1.2), by (with_reducible repeat (first | apply Kd.R_alloc | apply Kd.R_drewN | apply Kd.R_drew)); exact Kd.R_mono (Kd.R_far (p := ⟨gb1226, 3, none⟩) (Kd.R_far (p := ⟨gb1226, 2, none⟩) (Kd.R_far (p := ⟨gb1226, 1, none⟩) (Kd.R_far (p := ⟨gb1226, 0, none⟩) (Kd.R_types HO1234.out BK1226.out (by decide)) (fun _ hk => hk.2) (.slice Ao29 t1229.length co29)) (fun _ hk => hk.2) (.slice Ao33 t1232.length co33)) (fun _ hk => hk.2) (.slice Ao40 y1241.length co40)) (fun _ hk => hk.2) (.int .i64 a2)) (fun _ hk => trivial), by (with_reducible repeat (first | apply Kd.R_alloc | apply Kd.R_drewN | apply Kd.R_drew)); exact Kd.R_mono (Kd.R_far (p := ⟨gb1226, 3, none⟩) (Kd.R_far (p := ⟨gb1226, 2, none⟩) (Kd.R_far (p := ⟨gb1226, 1, none⟩) (Kd.R_far (p := ⟨gb1226, 0, none⟩) (Kd.R_types HO1243.out BK1226.out (by decide)) (fun _ hk => hk.2) (.slice Ao29 t1229.length co29)) (fun _ hk => hk.2) (.slice Ao33 t1232.length co33)) (fun _ hk => hk.2) (.slice Ao40 y1241.length co40)) (fun _ hk => hk.2) (.int .i64 a2)) (fun _ hk => hk.1), bs3 HB GE1225 GE1226 GE1236⟩
       ·
        rw [if_neg c24] at H
        exact absurd H (by simp)
      ·
       rw [if_neg c23] at H
       exact absurd H (by simp)
     ·
      rw [if_neg c22] at H
      exact absurd H (by simp)
    ·
     replace c21 := Bool.eq_false_iff.mpr c21
     subst c21
     rw [if_neg (show ¬ (false = true) by decide)] at H
     simp only [Option.some.injEq, Prod.mk.injEq] at H
     obtain ⟨rfl, rfl, rfl, rfl, rfl⟩ := H
     have hnb45 := NB1225_1226.out
     have hnc45 := NB1226_1225.out
     obtain ⟨hcz46_0, hcz46_1, hcz46_2, hcz46_3⟩ := cz4 BK1225
     obtain ⟨hfz46_0, hfz46_1, hfz46_2, hfz46_3⟩ := fz4 BK1225
     go_wp2_with (first | ((with_reducible refine gate_callee (f := 98) rfl ?_); refine gL (some 28) rfl rfl Try.func98 (by kernel_rfl) rfl #[.agg #[.slice A0_0 l0_0.length c0_0, .slice A0_1 l0_1.length c0_1], .slice A1 l1.length c1] rfl ?_; (with_reducible refine (spec_CrashDevice.calls kj3 _ _ l0_0 _ _ l0_1 _ _ l1 t1229 t1232 false _ ?side1 ?side2 ?side3 ?side4 ?side5 ?side6 A20.out).mono ?_); (case side1 => exact cb HR0_0 HB); (case side2 => exact HC0_0.out); (case side3 => exact cb HR0_1 HB); (case side4 => exact HC0_1.out); (case side5 => exact cb HR1 HB); (case side6 => exact HC1.out); rintro e w47 ⟨v1230, v1233, rfl, ho0, ho1, hb⟩; refine ⟨_, rfl, ?_⟩; have HO1231 := Aside0.mk (Kd.R_lower ho0 (below_size (bs2 HB GE1225 GE1226))); have HO1234 := Aside0.mk (Kd.R_lower ho1 (below_size (bs2 HB GE1225 GE1226))); replace BK1225 := nb BK1225 hb; replace BK1226 := nb BK1226 hb; replace HB := Aside0.mk (below_step (bs2 HB GE1225 GE1226) hb); (try clear hb); (try clear hb2); (try clear hk); (try clear hi); (try clear ho0); (try clear ho1)) | ((with_reducible refine gate_dst (N := 8) rfl ?_); (try (refine gate_guard (by rfl) ?_; dsimp only)); refine box_event ?hg (N := 8) ?hd (cs := #[.slice none 0 0, .slice none 0 0]) (t := 42) ?hr ?_; (case hd => rfl); (case hg => rfl); (case hr => first | (go_simp; done) | (go_simp; rfl)); intro gb1236 hg w48 hbox hb; replace HO1231 := nr HO1231 hb; replace HO1234 := nr HO1234 hb; have BK1236 := Aside0.mk (hbox); have GW1236 := Aside0.mk ((by rw [hg]; exact (below_size (bs2 HB GE1225 GE1226)) : w.heap.size ≤ gb1236)); have GE1236 := Aside0.mk ((by rw [hg]; exact (below_size (bs2 HB GE1225 GE1226)) : w.heap.size ≤ gb1236)); replace HB := Aside0.mk (below_step (bs2 HB GE1225 GE1226) hb); have NB1225_1236 := Aside0.mk ((bn BK1225 hg : gb1225 ≠ gb1236)); have NB1236_1225 := Aside0.mk ((bm BK1225 hg : gb1236 ≠ gb1225)); replace BK1225 := nb BK1225 hb; have NB1226_1236 := Aside0.mk ((bn BK1226 hg : gb1226 ≠ gb1236)); have NB1236_1226 := Aside0.mk ((bm BK1226 hg : gb1236 ≠ gb1226)); replace BK1226 := nb BK1226 hb; clear hb hbox hg; obtain ⟨Ao49, co49, eo49⟩ := Kd.R_slice HO1231.out; subst eo49; have hnb50 := NB1236_1225.out; have hnc50 := NB1225_1236.out; have hnb51 := NB1236_1226.out; have hnc51 := NB1226_1236.out; obtain ⟨hcz52_0, hcz52_1⟩ := cz2 BK1236; obtain ⟨hfz52_0, hfz52_1⟩ := fz2 BK1236; obtain ⟨Ao53, co53, eo53⟩ := Kd.R_slice HO1234.out; subst eo53; obtain ⟨hcz54_0, hcz54_1, hcz54_2, hcz54_3⟩ := cz4 BK1226; obtain ⟨hfz54_0, hfz54_1, hfz54_2, hfz54_3⟩ := fz4 BK1226))
     refine bodyPost_ret (results_ct rfl _ _ gb1226 44 #[.slice none 0 0, .slice none 0 0, .slice none 0 0, .int .i64 0] (0, 0) _ rfl (by (with_reducible repeat (first | refine blk_drewN ?_ _ | refine blk_drew ?_ | refine blk_alloc ?_ _)); refine blk_put (cs := #[.slice none 0 0, .slice none 0 0, .slice none 0 0, .int .i64 0]) ?_ 3 _ rfl; (with_reducible repeat (first | refine blk_drewN ?_ _ | refine blk_drew ?_ | refine blk_alloc ?_ _)); refine blk_put (cs := #[.slice none 0 0, .slice none 0 0, .slice none 0 0, .int .i64 0]) ?_ 2 _ rfl; (with_reducible repeat (first | refine blk_drewN ?_ _ | refine blk_drew ?_ | refine blk_alloc ?_ _)); refine blk_put (cs := #[.slice none 0 0, .slice none 0 0, .slice none 0 0, .int .i64 0]) ?_ 1 _ rfl; (with_reducible repeat (first | refine blk_drewN ?_ _ | refine blk_drew ?_ | refine blk_alloc ?_ _)); refine blk_put (cs := #[.slice none 0 0, .slice none 0 0, .slice none 0 0, .int .i64 0]) ?_ 0 _ rfl; (with_reducible repeat (first | refine blk_drewN ?_ _ | refine blk_drew ?_ | refine blk_alloc ?_ _)); refine blk_far ?_ NB1226_1236.out _; (with_reducible repeat (first | refine blk_drewN ?_ _ | refine blk_drew ?_ | refine blk_alloc ?_ _)); refine blk_far ?_ NB1226_1236.out _; (with_reducible repeat (first | refine blk_drewN ?_ _ | refine blk_drew ?_ | refine blk_alloc ?_ _)); exact BK1226.out) Try.underlying44 rfl (by kernel_rfl)) rfl ?_
     exact ⟨_, _, _, by first | rfl | (simp [errW_none, errW_some] <;> rfl) | (simp [*, errW_none, errW_some] <;> rfl), by first | exact Kd.R_nil _ _ _ _ _ | exact Kd.N_nil _ _ _ _ _ | exact Kd.V_nil _ _ _ _ _ | exact Kd.Q_nil _ _ _ _ _ | exact Kd.S_nil _ _ _ _ _, by first | exact Kd.R_nil _ _ _ _ _ | exact Kd.N_nil _ _ _ _ _ | exact Kd.V_nil _ _ _ _ _ | exact Kd.Q_nil _ _ _ _ _ | exact Kd.S_nil _ _ _ _ _, by first | exact Kd.R_nil _ _ _ _ _ | exact Kd.N_nil _ _ _ _ _ | exact Kd.V_nil _ _ _ _ _ | exact Kd.Q_nil _ _ _ _ _ | exact Kd.S_nil _ _ _ _ _, bs3 HB GE1225 GE1226 GE1236⟩

/-! ### laws_toBoolS: function 50 -/
def laws_toBoolS.l0 : Nat → List Bool → List Bool → Int → Option (List Bool)
 | 0, _, _, _ => none
 | k + 1, x0, x3, x4 => if x4 < (x0.length : Int) then (if 0 ≤ x4 then (if x4 < (x3.length : Int) then (laws_toBoolS.l0 k x0 (x3.set (x4 : Int).toNat (rdOf false x0 x4)) (wrap64 (x4 + 1))) else (none)) else (none)) else (some x3)
def laws_toBoolS.f (k : Nat) (l0 : List Bool) : Option (List Bool) := if 0 ≤ (l0.length : Int) then (if ((l0.length : Int) : Int).toNat ≤ 281474976710656 then (laws_toBoolS.l0 k l0 (List.replicate ((l0.length : Int) : Int).toNat false) 0) else (none)) else (none)
theorem laws_toBoolS.mono_l : ∀ k, (∀ y0 y1 y2, LeO (laws_toBoolS.l0 k y0 y1 y2) (laws_toBoolS.l0 (k + 1) y0 y1 y2))
 | 0 => fun _ _ _ r h => by simp [laws_toBoolS.l0] at h
 | k + 1 => by
  have ih0 := laws_toBoolS.mono_l k
  ·
   intro y0 y1 y2
   unfold laws_toBoolS.l0
   repeat' first
   | (with_reducible exact ih0 _ _ _)
   | (with_reducible exact LeO.refl _)
   | (with_reducible exact LeO.none _)
   | (with_reducible refine LeO.ite ?_ ?_)
   | (with_reducible refine LeO.bind ?_ (fun _ => ?_))
   | exact ih0 _ _ _
   | exact LeO.none _
   | refine LeO.ite ?_ ?_
   | refine LeO.bind ?_ (fun _ => ?_)
theorem laws_toBoolS.mono : ∀ a0 k, LeO (laws_toBoolS.f k a0) (laws_toBoolS.f (k + 1) a0) := by
 intro a0 k
 have ih0 := laws_toBoolS.mono_l k
 unfold laws_toBoolS.f
 repeat' first
   | (with_reducible exact ih0 _ _ _)
   | (with_reducible exact LeO.refl _)
   | (with_reducible exact LeO.none _)
   | (with_reducible refine LeO.ite ?_ ?_)
   | (with_reducible refine LeO.bind ?_ (fun _ => ?_))
   | exact ih0 _ _ _
   | exact LeO.none _
   | refine LeO.ite ?_ ?_
   | refine LeO.bind ?_ (fun _ => ?_)
set_option maxHeartbeats 8000000 in
set_option maxRecDepth 100000 in
theorem laws_toBoolS.calls (k : Nat) (A0 : Option Addr) (c0 : Nat) (l0 : List Bool) (r : List Bool) (w : World) (hr0 : Kd.C Kd.bool w A0 l0.length l0) (hc0 : l0.length ≤ c0) (h : laws_toBoolS.f k l0 = some r) :
  Calls Try.prog 50 #[.slice A0 l0.length c0] w fun e w' => ∃ v0_ : Value, e = .returned (v0_) ∧ Kd.R Kd.bool 4 w' w.heap.size (fun _ => True) v0_ r ∧ Below w.heap.size w w' := by
 have HR0 := Aside0.mk hr0
 have HC0 := Aside0.mk hc0
 clear hr0 hc0
 have HB := Aside0.mk (Below.refl w.heap.size w)
 have H : (if 0 ≤ (l0.length : Int) then (if ((l0.length : Int) : Int).toNat ≤ 281474976710656 then (laws_toBoolS.l0 k l0 (List.replicate ((l0.length : Int) : Int).toNat false) 0) else (none)) else (none)) = some r := h
 clear h
 by_cases c2 : 0 ≤ (l0.length : Int)
 ·
  rw [if_pos c2] at H
  have c2b0 := eq_true c2
  have c2b1 : decide (0 ≤ (l0.length : Int)) = true := decide_eq_true c2
  clear c2
  by_cases c3 : ((l0.length : Int) : Int).toNat ≤ 281474976710656
  ·
   rw [if_pos c3] at H
   have c3b0 := eq_true c3
   have c3b1 : decide (((l0.length : Int) : Int).toNat ≤ 281474976710656) = true := decide_eq_true c3
   clear c3
   obtain ⟨y1244, hy1244⟩ : ∃ y_ : List Bool, y_ = (List.replicate ((l0.length : Int) : Int).toNat false) := ⟨_, rfl⟩
   replace H : (laws_toBoolS.l0 k l0 y1244 0) = some r := by first | (rw [hy1244]; with_reducible exact H) | (have H2_ := (Option.bind_some _ _).symm.trans H; rw [hy1244]; with_reducible exact H2_) | (have H2_ := (Option.bind_some _ _).symm.trans H; with_reducible exact H2_) | with_reducible exact H | (rw [hy1244]; exact H) | exact H
   have Ny1244 := Aside0.mk hy1244
   clear hy1244
   have H' := Aside0.mk H
   clear H
   go_enter Try.func50, Try.ntmps50
   go_wp2_with (first | ((with_reducible refine gate_dst (N := 7) rfl ?_); refine Kd.R_make Kd.bool _ 4 rfl (N := 7) rfl 59 _ _ rfl (l0.length : Int) rfl rfl Try.underlying59 (.bool false) 1 info4 rfl (by decide) (by omega) false (ok := fun _ => True) (okp := fun _ => True) rfl (fun _ hk => hk) trivial (of_decide_eq_true (by first | (with_reducible assumption) | assumption)) (Nat.le_trans (Nat.mul_le_mul_right _ (of_decide_eq_true (by first | (with_reducible assumption) | assumption) : (l0.length : Int).toNat ≤ 281474976710656)) (by omega)) (Below.refl _ _) (Nat.le_refl _) ?_; intro v1245 w4 ho5 hb hg_ hnew_; clear hg_ hnew_; (first | rw [← Ny1244.out] at ho5 | (simp only [Int.reduceToNat] at ho5; rw [← Ny1244.out] at ho5)); have HO1246 := Aside0.mk (Kd.R_lower ho5 (below_size (bs HB))); replace HB := Aside0.mk (below_step (bs HB) hb); clear hb ho5))
   go_loopg [4] k (fun kq v4 w' => ∃ (x3_1 : List Bool) (x4_1 : Int), v4 = .int .i64 x4_1 ∧ Aside0 (laws_toBoolS.l0 kq l0 x3_1 x4_1 = some r) ∧ Aside0 (kq ≤ k) ∧ Aside0 (Kd.R Kd.bool 4 w' w.heap.size (fun _ => True) v1245 x3_1) ∧ Aside0 (Below w.heap.size w w'))
   case atStart => exact ⟨(y1244), (0), (by first | rfl | (simp; done) | (simp [*]; done)), H', ⟨Nat.le_refl _⟩, ⟨rr HO1246.out⟩, ⟨bs HB⟩⟩
   case round =>
    clear H'
    try clear c2
    try clear c2b0
    try clear c2b1
    try clear p2
    try clear c3
    try clear c3b0
    try clear c3b1
    try clear c5
    obtain ⟨x3_1, x4_1, rfl, HA, HK1, HO_3, HB⟩ := hrel
    cases gk with
    | zero => exact absurd HA.out (by simp [laws_toBoolS.l0])
    | succ k1 =>
     have H := HA.out
     clear HA
     simp only [laws_toBoolS.l0] at H
     by_cases c6 : x4_1 < (l0.length : Int)
     ·
      rw [if_pos c6] at H
      have c6b0 : decide (x4_1 < (l0.length : Int)) = true := decide_eq_true c6
      clear c6
      by_cases c7 : 0 ≤ x4_1
      ·
       rw [if_pos c7] at H
       have c7b0 : decide (0 ≤ x4_1) = true := decide_eq_true c7
       clear c7
       by_cases c8 : x4_1 < (x3_1.length : Int)
       ·
        rw [if_pos c8] at H
        have c8b0 : decide (x4_1 < (x3_1.length : Int)) = true := decide_eq_true c8
        clear c8
        obtain ⟨y1248, hy1248⟩ : ∃ y_ : List Bool, y_ = (x3_1.set (x4_1 : Int).toNat (rdOf false l0 x4_1)) := ⟨_, rfl⟩
        replace H : (laws_toBoolS.l0 k1 l0 y1248 (wrap64 (x4_1 + 1))) = some r := by first | (rw [hy1248]; with_reducible exact H) | (have H2_ := (Option.bind_some _ _).symm.trans H; rw [hy1248]; with_reducible exact H2_) | (have H2_ := (Option.bind_some _ _).symm.trans H; with_reducible exact H2_) | with_reducible exact H | (rw [hy1248]; exact H) | exact H
        have Ny1248 := Aside0.mk hy1248
        clear hy1248
        have H' := Aside0.mk H
        clear H
        have p1247 : 0 ≤ (x4_1 : Int) := of_decide_eq_true (by first | (with_reducible assumption) | assumption)
        have q1247 : x4_1 < (l0.length : Int) := of_decide_eq_true (by first | (with_reducible assumption) | assumption)
        obtain ⟨ad1247, e1247, hx1247_0⟩ := Kd.at_bool HR0.out x4_1 p1247 q1247
        cases e1247
        replace hx1247_0 := (HB.out.cell (World.block_lt_of_cell? w _ hx1247_0)).trans hx1247_0
        replace p1247 := eq_true p1247
        replace q1247 := eq_true q1247
        have p9 : 0 ≤ (x4_1 : Int) := of_decide_eq_true (by first | (with_reducible assumption) | assumption)
        have q9 : (x4_1 : Int) < ((x3_1.length : Int) : Int) := of_decide_eq_true (by first | (with_reducible assumption) | assumption)
        obtain ⟨go9, co9, eo9, gb9, gl9, cl9, HG9⟩ := Kd.R_form HO_3.out (by omega)
        (first | cases eo9 | (injection eo9 with ea_ en_ ec_; (first | subst ea_ | (injection ea_ with ea_; subst ea_)); subst ec_; clear en_))
        have GB9 := Aside0.mk gb9
        have GG9 := Aside0.mk HG9
        clear gb9 gl9 HG9
        obtain ⟨hx9_0, hf9_0⟩ := Kd.R_celln false HO_3.out (x4_1 : Int) p9 q9
        replace p9 := eq_true p9
        replace q9 := eq_true q9
        have HP10 := Kd.R_putg HO_3.out (x4_1 : Int) (rdOf false l0 x4_1)
        go_wp2_with (first | ((with_reducible refine gate_store (t := 4) (p := 20) rfl ?_); refine store_event (t := 4) (p := 20) (v := ?vo_w11) (w1 := (wr.setCell ⟨go9, (x4_1 : Int).toNat, none⟩ (.bool (rdOf false l0 x4_1)))) ?hg ?ho ?hn ?hr ?_; (case ho => rfl); (case hg => rfl); (case hn => rfl); (case hr => first | (go_simp; done) | (go_simp; rfl)); intro w11 hw; have hg : wr.grownBy w11 (some go9) := (by rw [hw]; exact HP10.2); have hp_ : Kd.R Kd.bool 4 w11 w.heap.size (fun _ => True) (.slice (some ⟨go9, 0, none⟩) x3_1.length co9) y1248 := (by rw [hw, Ny1248.out]; exact HP10.1); clear HP10; replace HO_3 := Aside0.mk (hp_); replace HB := Aside0.mk ((by rw [hw]; exact below_set (HB.out) GB9.out : Below w.heap.size w w11)); clear hg hw hp_))
        go_roundg k1
        case measure => have := HK1.out; omega
        case rel => exact ⟨(y1248), (wrap64 (x4_1 + 1)), (by first | rfl | (simp; done) | (simp [*]; done)), H', ⟨by have := HK1.out; omega⟩, ⟨rr HO_3.out⟩, ⟨bs HB⟩⟩
       ·
        rw [if_neg c8] at H
        exact absurd H (by simp)
      ·
       rw [if_neg c7] at H
       exact absurd H (by simp)
     ·
      rw [if_neg c6] at H
      have c6b0 : decide (x4_1 < (l0.length : Int)) = false := decide_eq_false c6
      clear c6
      obtain rfl := Option.some.inj H
      go_wp2
      go_ret
      exact ⟨_, by first | rfl | (simp [errW_none, errW_some] <;> rfl) | (simp [*, errW_none, errW_some] <;> rfl), by (with_reducible repeat (first | apply Kd.R_alloc | apply Kd.R_drewN | apply Kd.R_drew)); exact HO_3.out, bs HB⟩
  ·
   rw [if_neg c3] at H
   exact absurd H (by simp)
 ·
  rw [if_neg c2] at H
  exact absurd H (by simp)

/-! ### impl_CrashDevice_1: function 119 -/
def impl_CrashDevice_1.f (a0 : Int) (l1_0 : List Bool) : Option (Bool) := if 0 ≤ a0 then (if a0 < (l1_0.length : Int) then (some (rdOf false l1_0 a0)) else (none)) else (none)
set_option maxHeartbeats 8000000 in
set_option maxRecDepth 100000 in
theorem impl_CrashDevice_1.calls (a0 : Int) (gx1_0 : Nat) (A1_0 : Option Addr) (c1_0 : Nat) (l1_0 : List Bool) (r : Bool) (w : World) (hr1_0 : Kd.C Kd.bool w A1_0 l1_0.length l1_0) (hc1_0 : l1_0.length ≤ c1_0) (hx1_0 : w.heap[gx1_0]? = some (.cells #[.slice A1_0 l1_0.length c1_0] 59 (0, 0))) (h : impl_CrashDevice_1.f a0 l1_0 = some r) :
  Calls Try.prog 119 #[.int .i64 a0, .pointer (some ⟨gx1_0, 0, none⟩)] w fun e w' => e = .returned (.bool r) ∧ Drawn0 w w' := by
 have HR1_0 := Aside0.mk hr1_0
 have HC1_0 := Aside0.mk hc1_0
 clear hr1_0 hc1_0
 have BK1249 := Aside0.mk hx1_0
 clear hx1_0
 have H : (if 0 ≤ a0 then (if a0 < (l1_0.length : Int) then (some (rdOf false l1_0 a0)) else (none)) else (none)) = some r := h
 clear h
 by_cases c3 : 0 ≤ a0
 ·
  rw [if_pos c3] at H
  have c3b0 : decide (0 ≤ a0) = true := decide_eq_true c3
  clear c3
  by_cases c4 : a0 < (l1_0.length : Int)
  ·
   rw [if_pos c4] at H
   have c4b0 : decide (a0 < (l1_0.length : Int)) = true := decide_eq_true c4
   clear c4
   obtain rfl := Option.some.inj H
   have hcz5_0 : w.cell? ⟨gx1_0, 0, none⟩ = some (.slice A1_0 l1_0.length c1_0) := (blk_cell BK1249.out 0).trans rfl
   have hfz5_0 := fz1 BK1249
   have p1250 : 0 ≤ (a0 : Int) := of_decide_eq_true (by first | (with_reducible assumption) | assumption)
   have q1250 : a0 < (l1_0.length : Int) := of_decide_eq_true (by first | (with_reducible assumption) | assumption)
   obtain ⟨ad1250, e1250, hx1250_0⟩ := Kd.at_bool HR1_0.out a0 p1250 q1250
   cases e1250
   replace p1250 := eq_true p1250
   replace q1250 := eq_true q1250
   go_enter Try.func119, Try.ntmps119
   go_wp2
   go_ret
   exact ⟨by first | rfl | (simp; done) | (simp [*]; done), by repeat (first | exact Drawn0.refl _ | apply Drawn0.step)⟩
  ·
   rw [if_neg c4] at H
   exact absurd H (by simp)
 ·
  rw [if_neg c3] at H
  exact absurd H (by simp)

/-! ### impl_performed_at_impl_CrashDevice_1: function 89 -/
def impl_performed_at_impl_CrashDevice_1.l0 : Nat → List ByteArray → List (S72) → Int → Int → List Bool → Option (List ByteArray)
 | 0, _, _, _, _, _ => none
 | k + 1, x5, x12, x13, x14, x1252000 => if x14 < x13 then (if 0 ≤ x14 then (if x14 < (x12.length : Int) then ((impl_CrashDevice_1.f x14 x1252000).bind fun t1258 => (if t1258 = true then (if 0 ≤ ((rd_T72 x12 x14).f0) then (if ((rd_T72 x12 x14).f0) < (x5.length : Int) then (impl_performed_at_impl_CrashDevice_1.l0 k (x5.set (((rd_T72 x12 x14).f0) : Int).toNat ((rd_T72 x12 x14).f1)) x12 x13 (wrap64 (x14 + 1)) x1252000) else (none)) else (none)) else (impl_performed_at_impl_CrashDevice_1.l0 k x5 x12 x13 (wrap64 (x14 + 1)) x1252000))) else (none)) else (none)) else (some x5)
def impl_performed_at_impl_CrashDevice_1.f (k : Nat) (l0_0 : List ByteArray) (l0_1 : List (S72)) (l1_0 : List Bool) : Option (List ByteArray) := (slices_Clone_string_string.f l0_0).bind fun t1253 => (impl_performed_at_impl_CrashDevice_1.l0 k t1253 l0_1 (l0_1.length : Int) 0 l1_0)
theorem impl_performed_at_impl_CrashDevice_1.mono_l : ∀ k, (∀ y0 y1 y2 y3 y4, LeO (impl_performed_at_impl_CrashDevice_1.l0 k y0 y1 y2 y3 y4) (impl_performed_at_impl_CrashDevice_1.l0 (k + 1) y0 y1 y2 y3 y4))
 | 0 => fun _ _ _ _ _ r h => by simp [impl_performed_at_impl_CrashDevice_1.l0] at h
 | k + 1 => by
  have ih0 := impl_performed_at_impl_CrashDevice_1.mono_l k
  ·
   intro y0 y1 y2 y3 y4
   unfold impl_performed_at_impl_CrashDevice_1.l0
   repeat' first
   | (with_reducible exact ih0 _ _ _ _ _)
   | (with_reducible exact LeO.refl _)
   | (with_reducible exact LeO.none _)
   | (with_reducible refine LeO.ite ?_ ?_)
   | (with_reducible refine LeO.bind ?_ (fun _ => ?_))
   | exact ih0 _ _ _ _ _
   | exact LeO.none _
   | refine LeO.ite ?_ ?_
   | refine LeO.bind ?_ (fun _ => ?_)
theorem impl_performed_at_impl_CrashDevice_1.mono : ∀ a0 a1 a2 k, LeO (impl_performed_at_impl_CrashDevice_1.f k a0 a1 a2) (impl_performed_at_impl_CrashDevice_1.f (k + 1) a0 a1 a2) := by
 intro a0 a1 a2 k
 have ih0 := impl_performed_at_impl_CrashDevice_1.mono_l k
 unfold impl_performed_at_impl_CrashDevice_1.f
 repeat' first
   | (with_reducible exact ih0 _ _ _ _ _)
   | (with_reducible exact LeO.refl _)
   | (with_reducible exact LeO.none _)
   | (with_reducible refine LeO.ite ?_ ?_)
   | (with_reducible refine LeO.bind ?_ (fun _ => ?_))
   | exact ih0 _ _ _ _ _
   | exact LeO.none _
   | refine LeO.ite ?_ ?_
   | refine LeO.bind ?_ (fun _ => ?_)
set_option maxHeartbeats 8000000 in
set_option maxRecDepth 100000 in
theorem impl_performed_at_impl_CrashDevice_1.calls (k : Nat) (A0_0 : Option Addr) (c0_0 : Nat) (l0_0 : List ByteArray) (A0_1 : Option Addr) (c0_1 : Nat) (l0_1 : List (S72)) (gx1_0 : Nat) (A1_0 : Option Addr) (c1_0 : Nat) (l1_0 : List Bool) (r : List ByteArray) (w : World) (hr0_0 : Kd.C Kd.string w A0_0 l0_0.length l0_0) (hc0_0 : l0_0.length ≤ c0_0) (hr0_1 : Kd.C k72 w A0_1 l0_1.length l0_1) (hc0_1 : l0_1.length ≤ c0_1) (hr1_0 : Kd.C Kd.bool w A1_0 l1_0.length l1_0) (hc1_0 : l1_0.length ≤ c1_0) (hx1_0 : w.heap[gx1_0]? = some (.cells #[.slice A1_0 l1_0.length c1_0] 59 (0, 0))) (h : impl_performed_at_impl_CrashDevice_1.f k l0_0 l0_1 l1_0 = some r) :
  Calls Try.prog 89 #[.agg #[.slice A0_0 l0_0.length c0_0, .slice A0_1 l0_1.length c0_1], .func (.func 119) #[] #[.pointer (some ⟨gx1_0, 0, none⟩)]] w fun e w' => ∃ v0_ : Value, e = .returned (v0_) ∧ Kd.R Kd.string 9 w' w.heap.size (fun _ => True) v0_ r ∧ Below w.heap.size w w' := by
 have hu42 := Try.underlying42
 have hu72 := Try.underlying72
 have HR0_0 := Aside0.mk hr0_0
 have HC0_0 := Aside0.mk hc0_0
 clear hr0_0 hc0_0
 have HR0_1 := Aside0.mk hr0_1
 have HC0_1 := Aside0.mk hc0_1
 clear hr0_1 hc0_1
 have HR1_0 := Aside0.mk hr1_0
 have HC1_0 := Aside0.mk hc1_0
 clear hr1_0 hc1_0
 have BK1251 := Aside0.mk hx1_0
 clear hx1_0
 have HB := Aside0.mk (Below.refl w.heap.size w)
 have H : ((slices_Clone_string_string.f l0_0).bind fun t1253 => (impl_performed_at_impl_CrashDevice_1.l0 k t1253 l0_1 (l0_1.length : Int) 0 l1_0)) = some r := h
 clear h
 replace H := Option.bind_eq_some_iff.mp H
 obtain ⟨t1253, A30, H⟩ := H
 replace H : (impl_performed_at_impl_CrashDevice_1.l0 k t1253 l0_1 (l0_1.length : Int) 0 l1_0) = some r := H
 have A3 := Aside0.mk A30
 clear A30
 have H' := Aside0.mk H
 clear H
 go_enter Try.func89, Try.ntmps89
 go_wp2_with (first | ((with_reducible refine gate_dst (N := 2) rfl ?_); refine box_event ?hg (N := 2) ?hd (cs := #[.slice A0_0 l0_0.length c0_0, .slice A0_1 l0_1.length c0_1]) (t := 42) ?hr ?_; (case hd => rfl); (case hg => rfl); (case hr => first | (go_simp; done) | (go_simp; rfl)); intro gb1252 hg w4 hbox hb; have BK1252 := Aside0.mk (hbox); have GW1252 := Aside0.mk ((by rw [hg]; exact (below_size (bs HB)) : w.heap.size ≤ gb1252)); have GE1252 := Aside0.mk ((by rw [hg]; exact (below_size (bs HB)) : w.heap.size ≤ gb1252)); replace HB := Aside0.mk (below_step (bs HB) hb); have NB1251_1252 := Aside0.mk ((by rw [hg]; exact Nat.ne_of_lt (blk_lt (g := gx1_0) (o := .cells #[.slice A1_0 l1_0.length c1_0] 59 (0, 0)) (bk BK1251)) : gx1_0 ≠ gb1252)); have NB1252_1251 := Aside0.mk ((by rw [hg]; exact Nat.ne_of_gt (blk_lt (g := gx1_0) (o := .cells #[.slice A1_0 l1_0.length c1_0] 59 (0, 0)) (bk BK1251)) : gb1252 ≠ gx1_0)); replace BK1251 := Aside0.mk (blk_below (g := gx1_0) (o := .cells #[.slice A1_0 l1_0.length c1_0] 59 (0, 0)) (bk BK1251) hb); clear hb hbox hg; have hnb5 := NB1252_1251.out; have hnc5 := NB1251_1252.out; obtain ⟨hcz6_0, hcz6_1⟩ := cz2 BK1252; obtain ⟨hfz6_0, hfz6_1⟩ := fz2 BK1252) | ((with_reducible refine gate_callee (f := 97) rfl ?_); refine gL (some 10) rfl rfl Try.func97 (by kernel_rfl) rfl #[.slice A0_0 l0_0.length c0_0] rfl ?_; (with_reducible refine (slices_Clone_string_string.calls _ _ l0_0 t1253 _ ?side1 ?side2 A3.out).mono ?_); (case side1 => exact cb HR0_0 HB); (case side2 => exact HC0_0.out); rintro e w7 ⟨v1254, rfl, ho0, hb⟩; refine ⟨_, rfl, ?_⟩; have HO1255 := Aside0.mk (Kd.R_lower ho0 (below_size (bs1 HB GE1252))); replace BK1251 := Aside0.mk (blk_below (g := gx1_0) (o := .cells #[.slice A1_0 l1_0.length c1_0] 59 (0, 0)) (bk BK1251) hb); replace BK1252 := nb BK1252 hb; replace HB := Aside0.mk (below_step (bs1 HB GE1252) hb); (try clear hb); (try clear hb2); (try clear hk); (try clear hi); (try clear ho0); obtain ⟨hcz8_0, hcz8_1⟩ := cz2 BK1252; obtain ⟨hfz8_0, hfz8_1⟩ := fz2 BK1252))
 go_loopg [14] k (fun kq v14 w' => ∃ (x5_1 : List ByteArray) (x14_1 : Int), v14 = .int .i64 x14_1 ∧ Aside0 (impl_performed_at_impl_CrashDevice_1.l0 kq x5_1 l0_1 (l0_1.length : Int) x14_1 l1_0 = some r) ∧ Aside0 (kq ≤ k) ∧ Aside0 (Kd.R Kd.string 9 w' w.heap.size (fun _ => True) v1254 x5_1) ∧ Aside0 (w'.heap[gx1_0]? = some (.cells #[(.slice A1_0 l1_0.length c1_0)] 59 (0, 0))) ∧ Aside0 (w'.heap[gb1252]? = some (.cells #[(.slice A0_0 l0_0.length c0_0), (.slice A0_1 l0_1.length c0_1)] 42 (0, 0))) ∧ Aside0 (Below w.heap.size w w'))
 case atStart => exact ⟨(t1253), (0), (by first | rfl | (simp; done) | (simp [*]; done)), H', ⟨Nat.le_refl _⟩, ⟨rr HO1255.out⟩, ⟨bk BK1251⟩, ⟨bk BK1252⟩, ⟨bs1 HB GE1252⟩⟩
 case round =>
  clear H'
  try clear c1
  try clear hx1
  try clear p2
  try clear c5
  try clear c8
  try clear hcz6_0 hcz6_1
  try clear hcz8_0 hcz8_1
  try clear hfz6_0 hfz6_1
  try clear hfz8_0 hfz8_1
  try clear hx1_0
  obtain ⟨x5_1, x14_1, rfl, HA, HK1, HO_5, BK1251, BK1252, HB⟩ := hrel
  cases gk with
  | zero => exact absurd HA.out (by simp [impl_performed_at_impl_CrashDevice_1.l0])
  | succ k1 =>
   have H := HA.out
   clear HA
   simp only [impl_performed_at_impl_CrashDevice_1.l0] at H
   by_cases c9 : x14_1 < (l0_1.length : Int)
   ·
    rw [if_pos c9] at H
    have c9b0 : decide (x14_1 < (l0_1.length : Int)) = true := decide_eq_true c9
    clear c9
    by_cases c10 : 0 ≤ x14_1
    ·
     rw [if_pos c10] at H
     have c10b0 : decide (0 ≤ x14_1) = true := decide_eq_true c10
     clear c10
     by_cases c11 : x14_1 < (l0_1.length : Int)
     ·
      rw [if_pos c11] at H
      have c11b0 : decide (x14_1 < (l0_1.length : Int)) = true := decide_eq_true c11
      clear c11
      replace H := Option.bind_eq_some_iff.mp H
      obtain ⟨t1258, A120, H⟩ := H
      replace H : (if t1258 = true then (if 0 ≤ ((rd_T72 l0_1 x14_1).f0) then (if ((rd_T72 l0_1 x14_1).f0) < (x5_1.length : Int) then (impl_performed_at_impl_CrashDevice_1.l0 k1 (x5_1.set (((rd_T72 l0_1 x14_1).f0) : Int).toNat ((rd_T72 l0_1 x14_1).f1)) l0_1 (l0_1.length : Int) (wrap64 (x14_1 + 1)) l1_0) else (none)) else (none)) else (impl_performed_at_impl_CrashDevice_1.l0 k1 x5_1 l0_1 (l0_1.length : Int) (wrap64 (x14_1 + 1)) l1_0)) = some r := H
      have A12 := Aside0.mk A120
      clear A120
      by_cases c13 : t1258 = true
      ·
       subst c13
       rw [if_pos rfl] at H
       by_cases c14 : 0 ≤ ((rd_T72 l0_1 x14_1).f0)
       ·
        rw [if_pos c14] at H
        have c14b0 : decide (0 ≤ ((rd_T72 l0_1 x14_1).f0)) = true := decide_eq_true c14
        clear c14
        by_cases c15 : ((rd_T72 l0_1 x14_1).f0) < (x5_1.length : Int)
        ·
         rw [if_pos c15] at H
         have c15b0 : decide (((rd_T72 l0_1 x14_1).f0) < (x5_1.length : Int)) = true := decide_eq_true c15
         clear c15
         obtain ⟨y1259, hy1259⟩ : ∃ y_ : List ByteArray, y_ = (x5_1.set (((rd_T72 l0_1 x14_1).f0) : Int).toNat ((rd_T72 l0_1 x14_1).f1)) := ⟨_, rfl⟩
         replace H : (impl_performed_at_impl_CrashDevice_1.l0 k1 y1259 l0_1 (l0_1.length : Int) (wrap64 (x14_1 + 1)) l1_0) = some r := by first | (rw [hy1259]; with_reducible exact H) | (have H2_ := (Option.bind_some _ _).symm.trans H; rw [hy1259]; with_reducible exact H2_) | (have H2_ := (Option.bind_some _ _).symm.trans H; with_reducible exact H2_) | with_reducible exact H | (rw [hy1259]; exact H) | exact H
         have Ny1259 := Aside0.mk hy1259
         clear hy1259
         have H' := Aside0.mk H
         clear H
         have p1256 : 0 ≤ (x14_1 : Int) := of_decide_eq_true (by first | (with_reducible assumption) | assumption)
         have q1256 : x14_1 < (l0_1.length : Int) := of_decide_eq_true (by first | (with_reducible assumption) | assumption)
         obtain ⟨ad1256, e1256, hx1256_0, hx1256_1⟩ := at_T72 HR0_1.out x14_1 p1256 q1256
         cases e1256
         replace hx1256_0 := (HB.out.cell (World.block_lt_of_cell? w _ hx1256_0)).trans hx1256_0
         replace hx1256_1 := (HB.out.cell (World.block_lt_of_cell? w _ hx1256_1)).trans hx1256_1
         replace p1256 := eq_true p1256
         replace q1256 := eq_true q1256
         go_wp2_with (first | ((with_reducible refine gate_dst (N := 7) rfl ?_); refine box_event ?hg (N := 7) ?hd (cs := #[.int .i64 0, .string (⟨#[]⟩ : ByteArray)]) (t := 72) ?hr ?_; (case hd => rfl); (case hg => rfl); (case hr => first | (go_simp; done) | (go_simp; rfl)); intro gb1257 hg w17 hbox hb; replace HO_5 := nr HO_5 hb; have BK1257 := Aside0.mk (hbox); have GW1257 := Aside0.mk ((by rw [hg]; exact (below_size (bs1 HB GE1252)) : w.heap.size ≤ gb1257)); have GE1257 := Aside0.mk ((by rw [hg]; exact (below_size (bs1 HB GE1252)) : w.heap.size ≤ gb1257)); replace HB := Aside0.mk (below_step (bs1 HB GE1252) hb); have NB1251_1257 := Aside0.mk ((by rw [hg]; exact Nat.ne_of_lt (blk_lt (g := gx1_0) (o := .cells #[.slice A1_0 l1_0.length c1_0] 59 (0, 0)) (bk BK1251)) : gx1_0 ≠ gb1257)); have NB1257_1251 := Aside0.mk ((by rw [hg]; exact Nat.ne_of_gt (blk_lt (g := gx1_0) (o := .cells #[.slice A1_0 l1_0.length c1_0] 59 (0, 0)) (bk BK1251)) : gb1257 ≠ gx1_0)); replace BK1251 := Aside0.mk (blk_below (g := gx1_0) (o := .cells #[.slice A1_0 l1_0.length c1_0] 59 (0, 0)) (bk BK1251) hb); have NB1252_1257 := Aside0.mk ((bn BK1252 hg : gb1252 ≠ gb1257)); have NB1257_1252 := Aside0.mk ((bm BK1252 hg : gb1257 ≠ gb1252)); replace BK1252 := nb BK1252 hb; clear hb hbox hg; have hnb18 := NB1257_1251.out; have hnc18 := NB1251_1257.out; have hnb19 := NB1257_1252.out; have hnc19 := NB1252_1257.out; obtain ⟨hcz20_0, hcz20_1⟩ := cz2 BK1257; obtain ⟨hfz20_0, hfz20_1⟩ := fz2 BK1257) | ((with_reducible refine gate_store (t := 72) (p := 7) rfl ?_); refine store_event (t := 72) (p := 7) (v := ?vo_w21) (w1 := ((w17.setCell ⟨gb1257, 0, none⟩ (.int .i64 ((rd_T72 l0_1 x14_1).f0))).setCell ⟨gb1257, 1, none⟩ (.string ((rd_T72 l0_1 x14_1).f1)))) ?hg ?ho ?hn ?hr ?_; (case ho => rfl); (case hg => rfl); (case hn => rfl); (case hr => first | (go_simp; done) | (go_simp; rfl)); intro w21 hw; have n0_ : Aside0 (Kd.R Kd.string 9 w21 w.heap.size (fun _ => True) v1254 x5_1) := ⟨(by rw [hw]; exact (by (with_reducible repeat (first | apply Kd.R_alloc | apply Kd.R_drewN | apply Kd.R_drew)); exact Kd.R_mono (Kd.R_far (p := ⟨gb1257, 1, none⟩) (Kd.R_far (p := ⟨gb1257, 0, none⟩) (Kd.R_types HO_5.out BK1257.out (by decide)) (fun _ hk => hk.2) (.int .i64 ((rd_T72 l0_1 x14_1).f0))) (fun _ hk => hk.2) (.string ((rd_T72 l0_1 x14_1).f1))) (fun _ hk => trivial)))⟩; have n1_ : Aside0 (w21.heap[gx1_0]? = some (.cells #[.slice A1_0 l1_0.length c1_0] 59 (0, 0))) := ⟨(by rw [hw]; exact (bf BK1251 NB1251_1257))⟩; have n2_ : Aside0 (w21.heap[gb1252]? = some (.cells #[.slice A0_0 l0_0.length c0_0, .slice (some ad1256) l0_1.length c0_1] 42 (0, 0))) := ⟨(by rw [hw]; exact (bf BK1252 NB1252_1257))⟩; have n3_ : Aside0 (w21.heap[gb1257]? = some (.cells #[.int .i64 ((rd_T72 l0_1 x14_1).f0), .string ((rd_T72 l0_1 x14_1).f1)] 72 (0, 0))) := ⟨(by rw [hw]; exact (by (with_reducible repeat (first | refine blk_drewN ?_ _ | refine blk_drew ?_ | refine blk_alloc ?_ _)); refine blk_put (cs := #[.int .i64 ((rd_T72 l0_1 x14_1).f0), .string (⟨#[]⟩ : ByteArray)]) ?_ 1 _ rfl; (with_reducible repeat (first | refine blk_drewN ?_ _ | refine blk_drew ?_ | refine blk_alloc ?_ _)); refine blk_put (cs := #[.int .i64 0, .string (⟨#[]⟩ : ByteArray)]) ?_ 0 _ rfl; (with_reducible repeat (first | refine blk_drewN ?_ _ | refine blk_drew ?_ | refine blk_alloc ?_ _)); exact BK1257.out))⟩; have n4_ : Aside0 (Below w.heap.size w w21) := ⟨(by rw [hw]; exact (bs2 HB GE1252 GE1257))⟩; clear hw; clear HO_5; clear BK1251; clear BK1252; clear BK1257; clear HB; have HO_5 := n0_; have BK1251 := n1_; have BK1252 := n2_; have BK1257 := n3_; have HB := n4_; clear n0_ n1_ n2_ n3_ n4_) | ((with_reducible refine gate_value (t := 19) rfl ?_); refine goesV_ (some 21) rfl rfl Try.func119 (by kernel_rfl) rfl #[.int .i64 x14_1, .pointer (some ⟨gx1_0, 0, none⟩)] rfl rfl (by (try simp only [List.map_toArray, List.map_cons, List.map_nil]); first | done | rfl | (simp only [List.length_drop, List.length_take]; rfl)) ?_; (with_reducible refine (impl_CrashDevice_1.calls x14_1 gx1_0 A1_0 c1_0 l1_0 true _ ?side1 ?side2 ?side3 A12.out).mono ?_); (case side1 => exact cb HR1_0 HB); (case side2 => exact HC1_0.out); (case side3 => (with_reducible repeat (first | refine blk_drewN ?_ _ | refine blk_drew ?_ | refine blk_alloc ?_ _)); exact BK1251.out); rintro e w' ⟨rfl, ⟨nd, rfl⟩⟩; refine ⟨_, rfl, ?_⟩; (try (rw [drewN_self w21]; generalize hq_ : World.drewN w21 _ = w21; have n0_ : Aside0 (Kd.R Kd.string 9 w21 w.heap.size (fun _ => True) v1254 x5_1) := ⟨by rw [← hq_]; exact (rr HO_5.out)⟩; have n1_ : Aside0 (w21.heap[gx1_0]? = some (.cells #[.slice A1_0 l1_0.length c1_0] 59 (0, 0))) := ⟨by rw [← hq_]; exact (bk BK1251)⟩; have n2_ : Aside0 (w21.heap[gb1252]? = some (.cells #[.slice A0_0 l0_0.length c0_0, .slice (some ad1256) l0_1.length c0_1] 42 (0, 0))) := ⟨by rw [← hq_]; exact (bk BK1252)⟩; have n3_ : Aside0 (w21.heap[gb1257]? = some (.cells #[.int .i64 ((rd_T72 l0_1 x14_1).f0), .string ((rd_T72 l0_1 x14_1).f1)] 72 (0, 0))) := ⟨by rw [← hq_]; exact (bk BK1257)⟩; have n4_ : Aside0 (Below w.heap.size w w21) := ⟨by rw [← hq_]; exact (bs2 HB GE1252 GE1257)⟩; clear HO_5 BK1251 BK1252 BK1257 HB hq_; have HO_5 := n0_; have BK1251 := n1_; have BK1252 := n2_; have BK1257 := n3_; have HB := n4_; clear n0_ n1_ n2_ n3_ n4_)); obtain ⟨hcz22_0, hcz22_1⟩ := cz2 BK1257; obtain ⟨hfz22_0, hfz22_1⟩ := fz2 BK1257; have p16 : 0 ≤ (((rd_T72 l0_1 x14_1).f0) : Int) := of_decide_eq_true (by first | (with_reducible assumption) | assumption); have q16 : (((rd_T72 l0_1 x14_1).f0) : Int) < ((x5_1.length : Int) : Int) := of_decide_eq_true (by first | (with_reducible assumption) | assumption); obtain ⟨go16, co16, eo16, gb16, gl16, cl16, HG16⟩ := Kd.R_form HO_5.out (by omega); (first | cases eo16 | (injection eo16 with ea_ en_ ec_; (first | subst ea_ | (injection ea_ with ea_; subst ea_)); subst ec_; clear en_)); have GB16 := Aside0.mk gb16; have GG16 := Aside0.mk HG16; clear gb16 gl16 HG16; obtain ⟨hx16_0, hf16_0⟩ := Kd.R_celln (⟨#[]⟩ : ByteArray) HO_5.out (((rd_T72 l0_1 x14_1).f0) : Int) p16 q16; replace p16 := eq_true p16; replace q16 := eq_true q16; obtain ⟨hy23_, hz23_⟩ := Kd.R_celln (⟨#[]⟩ : ByteArray) HO_5.out (((rd_T72 l0_1 x14_1).f0) : Int) (of_decide_eq_true (by first | (with_reducible assumption) | assumption)) (of_decide_eq_true (by first | (with_reducible assumption) | assumption)); have HP23 := Kd.R_putg HO_5.out (((rd_T72 l0_1 x14_1).f0) : Int) ((rd_T72 l0_1 x14_1).f1)) | ((with_reducible refine gate_store (t := 9) (p := 27) rfl ?_); refine store_event (t := 9) (p := 27) (v := ?vo_w24) (w1 := (w21.setCell ⟨go16, (((rd_T72 l0_1 x14_1).f0) : Int).toNat, none⟩ (.string ((rd_T72 l0_1 x14_1).f1)))) ?hg ?ho ?hn ?hr ?_; (case ho => rfl); (case hg => rfl); (case hn => rfl); (case hr => first | (go_simp; done) | (go_simp; rfl)); intro w24 hw; have hg : w21.grownBy w24 (some go16) := (by rw [hw]; exact HP23.2); have hp_ : Kd.R Kd.string 9 w24 w.heap.size (fun _ => True) (.slice (some ⟨go16, 0, none⟩) x5_1.length co16) y1259 := (by rw [hw, Ny1259.out]; exact HP23.1); clear HP23; replace BK1251 := Aside0.mk (blk_grown (g := gx1_0) (o := .cells #[.slice A1_0 l1_0.length c1_0] 59 (0, 0)) (bk BK1251) hg (Kd.R_ne HO_5.out BK1251.out (by decide))); replace BK1252 := Aside0.mk (blk_grown (g := gb1252) (o := .cells #[.slice A0_0 l0_0.length c0_0, .slice (some ad1256) l0_1.length c0_1] 42 (0, 0)) (bk BK1252) hg (Kd.R_ne HO_5.out BK1252.out (by decide))); replace BK1257 := Aside0.mk (blk_grown (g := gb1257) (o := .cells #[.int .i64 ((rd_T72 l0_1 x14_1).f0), .string ((rd_T72 l0_1 x14_1).f1)] 72 (0, 0)) (bk BK1257) hg (Kd.R_ne HO_5.out BK1257.out (by decide))); replace HO_5 := Aside0.mk (hp_); replace HB := Aside0.mk ((by rw [hw]; exact below_set (HB.out) GB16.out : Below w.heap.size w w24)); clear hg hw hp_))
         go_roundg k1
         case measure => have := HK1.out; omega
         case rel => exact ⟨(y1259), (wrap64 (x14_1 + 1)), (by first | rfl | (simp; done) | (simp [*]; done)), H', ⟨by have := HK1.out; omega⟩, ⟨rr HO_5.out⟩, ⟨bk BK1251⟩, ⟨bk BK1252⟩, ⟨bs2 HB GE1252 GE1257⟩⟩
        ·
         rw [if_neg c15] at H
         exact absurd H (by simp)
       ·
        rw [if_neg c14] at H
        exact absurd H (by simp)
      ·
       replace c13 := Bool.eq_false_iff.mpr c13
       subst c13
       rw [if_neg (show ¬ (false = true) by decide)] at H
       have H' := Aside0.mk H
       clear H
       have p1256 : 0 ≤ (x14_1 : Int) := of_decide_eq_true (by first | (with_reducible assumption) | assumption)
       have q1256 : x14_1 < (l0_1.length : Int) := of_decide_eq_true (by first | (with_reducible assumption) | assumption)
       obtain ⟨ad1256, e1256, hx1256_0, hx1256_1⟩ := at_T72 HR0_1.out x14_1 p1256 q1256
       cases e1256
       replace hx1256_0 := (HB.out.cell (World.block_lt_of_cell? w _ hx1256_0)).trans hx1256_0
       replace hx1256_1 := (HB.out.cell (World.block_lt_of_cell? w _ hx1256_1)).trans hx1256_1
       replace p1256 := eq_true p1256
       replace q1256 := eq_true q1256
       go_wp2_with (first | ((with_reducible refine gate_dst (N := 7) rfl ?_); refine box_event ?hg (N := 7) ?hd (cs := #[.int .i64 0, .string (⟨#[]⟩ : ByteArray)]) (t := 72) ?hr ?_; (case hd => rfl); (case hg => rfl); (case hr => first | (go_simp; done) | (go_simp; rfl)); intro gb1257 hg w25 hbox hb; replace HO_5 := nr HO_5 hb; have BK1257 := Aside0.mk (hbox); have GW1257 := Aside0.mk ((by rw [hg]; exact (below_size (bs1 HB GE1252)) : w.heap.size ≤ gb1257)); have GE1257 := Aside0.mk ((by rw [hg]; exact (below_size (bs1 HB GE1252)) : w.heap.size ≤ gb1257)); replace HB := Aside0.mk (below_step (bs1 HB GE1252) hb); have NB1251_1257 := Aside0.mk ((by rw [hg]; exact Nat.ne_of_lt (blk_lt (g := gx1_0) (o := .cells #[.slice A1_0 l1_0.length c1_0] 59 (0, 0)) (bk BK1251)) : gx1_0 ≠ gb1257)); have NB1257_1251 := Aside0.mk ((by rw [hg]; exact Nat.ne_of_gt (blk_lt (g := gx1_0) (o := .cells #[.slice A1_0 l1_0.length c1_0] 59 (0, 0)) (bk BK1251)) : gb1257 ≠ gx1_0)); replace BK1251 := Aside0.mk (blk_below (g := gx1_0) (o := .cells #[.slice A1_0 l1_0.length c1_0] 59 (0, 0)) (bk BK1251) hb); have NB1252_1257 := Aside0.mk ((bn BK1252 hg : gb1252 ≠ gb1257)); have NB1257_1252 := Aside0.mk ((bm BK1252 hg : gb1257 ≠ gb1252)); replace BK1252 := nb BK1252 hb; clear hb hbox hg; have hnb26 := NB1257_1251.out; have hnc26 := NB1251_1257.out; have hnb27 := NB1257_1252.out; have hnc27 := NB1252_1257.out; obtain ⟨hcz28_0, hcz28_1⟩ := cz2 BK1257; obtain ⟨hfz28_0, hfz28_1⟩ := fz2 BK1257) | ((with_reducible refine gate_value (t := 19) rfl ?_); refine goesV_ (some 21) rfl rfl Try.func119 (by kernel_rfl) rfl #[.int .i64 x14_1, .pointer (some ⟨gx1_0, 0, none⟩)] rfl rfl (by (try simp only [List.map_toArray, List.map_cons, List.map_nil]); first | done | rfl | (simp only [List.length_drop, List.length_take]; rfl)) ?_; (with_reducible refine (impl_CrashDevice_1.calls x14_1 gx1_0 A1_0 c1_0 l1_0 false _ ?side1 ?side2 ?side3 A12.out).mono ?_); (case side1 => exact Kd.C_below HR1_0.out (bs2 HB GE1252 GE1257)); (case side2 => exact HC1_0.out); (case side3 => (with_reducible repeat (first | refine blk_drewN ?_ _ | refine blk_drew ?_ | refine blk_alloc ?_ _)); refine blk_far ?_ NB1251_1257.out _; (with_reducible repeat (first | refine blk_drewN ?_ _ | refine blk_drew ?_ | refine blk_alloc ?_ _)); refine blk_far ?_ NB1251_1257.out _; (with_reducible repeat (first | refine blk_drewN ?_ _ | refine blk_drew ?_ | refine blk_alloc ?_ _)); exact BK1251.out); rintro e w' ⟨rfl, ⟨nd, rfl⟩⟩; refine ⟨_, rfl, ?_⟩))
       go_roundg k1
       case measure => have := HK1.out; omega
       case rel => exact ⟨(x5_1), (wrap64 (x14_1 + 1)), (by first | rfl | (simp; done) | (simp [*]; done)), H', ⟨by have := HK1.out; omega⟩, ⟨by (with_reducible repeat (first | apply Kd.R_alloc | apply Kd.R_drewN | apply Kd.R_drew)); exact Kd.R_mono (Kd.R_far (p := ⟨gb1257, 1, none⟩) (Kd.R_far (p := ⟨gb1257, 0, none⟩) (Kd.R_types HO_5.out BK1257.out (by decide)) (fun _ hk => hk.2) (.int .i64 ((rd_T72 l0_1 x14_1).f0))) (fun _ hk => hk.2) (.string ((rd_T72 l0_1 x14_1).f1))) (fun _ hk => trivial)⟩, ⟨bf BK1251 NB1251_1257⟩, ⟨bf BK1252 NB1252_1257⟩, ⟨bs2 HB GE1252 GE1257⟩⟩
     ·
      rw [if_neg c11] at H
      exact absurd H (by simp)
    ·
     rw [if_neg c10] at H
     exact absurd H (by simp)
   ·
    rw [if_neg c9] at H
    have c9b0 : decide (x14_1 < (l0_1.length : Int)) = false := decide_eq_false c9
    clear c9
    obtain rfl := Option.some.inj H
    go_wp2
    go_ret
    exact ⟨_, by first | rfl | (simp [errW_none, errW_some] <;> rfl) | (simp [*, errW_none, errW_some] <;> rfl), by (with_reducible repeat (first | apply Kd.R_alloc | apply Kd.R_drewN | apply Kd.R_drew)); exact HO_5.out, bs1 HB GE1252⟩

/-! ### impl_CrashDevice: function 99 -/
def impl_CrashDevice.f (k : Nat) (l0_0 : List ByteArray) (l0_1 : List (S72)) (l1 : List Bool) : Option (List ByteArray × (List (S72)) × Bool) := (impl_GoodDevice.f k l0_0 l0_1).bind fun t1263 => (if t1263 = true then (if (l1.length : Int) = (l0_1.length : Int) then ((impl_performed_at_impl_CrashDevice_1.f k l0_0 l0_1 l1).bind fun t1264 => (some (t1264, ([] : List (S72)), true))) else (some (([] : List ByteArray), ([] : List (S72)), false))) else (some (([] : List ByteArray), ([] : List (S72)), false)))
theorem impl_CrashDevice.mono : ∀ a0 a1 a2 k, LeO (impl_CrashDevice.f k a0 a1 a2) (impl_CrashDevice.f (k + 1) a0 a1 a2) := by
 intro a0 a1 a2 k
 unfold impl_CrashDevice.f
 repeat' first
   | (with_reducible exact impl_GoodDevice.mono _ _ _)
   | (with_reducible exact impl_performed_at_impl_CrashDevice_1.mono _ _ _ _)
   | (with_reducible exact LeO.refl _)
   | (with_reducible exact LeO.none _)
   | (with_reducible refine LeO.ite ?_ ?_)
   | (with_reducible refine LeO.bind ?_ (fun _ => ?_))
   | exact impl_GoodDevice.mono _ _ _
   | exact impl_performed_at_impl_CrashDevice_1.mono _ _ _ _
   | exact LeO.none _
   | refine LeO.ite ?_ ?_
   | refine LeO.bind ?_ (fun _ => ?_)
set_option maxHeartbeats 8000000 in
set_option maxRecDepth 100000 in
theorem impl_CrashDevice.calls (k : Nat) (A0_0 : Option Addr) (c0_0 : Nat) (l0_0 : List ByteArray) (A0_1 : Option Addr) (c0_1 : Nat) (l0_1 : List (S72)) (A1 : Option Addr) (c1 : Nat) (l1 : List Bool) (r1 : List ByteArray) (r2 : List (S72)) (r3 : Bool) (w : World) (hr0_0 : Kd.C Kd.string w A0_0 l0_0.length l0_0) (hc0_0 : l0_0.length ≤ c0_0) (hr0_1 : Kd.C k72 w A0_1 l0_1.length l0_1) (hc0_1 : l0_1.length ≤ c0_1) (hr1 : Kd.C Kd.bool w A1 l1.length l1) (hc1 : l1.length ≤ c1) (h : impl_CrashDevice.f k l0_0 l0_1 l1 = some (r1, r2, r3)) :
  Calls Try.prog 99 #[.agg #[.slice A0_0 l0_0.length c0_0, .slice A0_1 l0_1.length c0_1], .slice A1 l1.length c1] w fun e w' => ∃ v0_ v1_ : Value, e = .returned (.tuple #[.agg #[v0_, v1_], .bool r3]) ∧ Kd.R Kd.string 9 w' w.heap.size (fun _ => True) v0_ r1 ∧ Kd.R k72 72 w' w.heap.size (fun _ => True) v1_ r2 ∧ Below w.heap.size w w' := by
 have hu42 := Try.underlying42
 have HR0_0 := Aside0.mk hr0_0
 have HC0_0 := Aside0.mk hc0_0
 clear hr0_0 hc0_0
 have HR0_1 := Aside0.mk hr0_1
 have HC0_1 := Aside0.mk hc0_1
 clear hr0_1 hc0_1
 have HR1 := Aside0.mk hr1
 have HC1 := Aside0.mk hc1
 clear hr1 hc1
 have HB := Aside0.mk (Below.refl w.heap.size w)
 have H : ((impl_GoodDevice.f k l0_0 l0_1).bind fun t1263 => (if t1263 = true then (if (l1.length : Int) = (l0_1.length : Int) then ((impl_performed_at_impl_CrashDevice_1.f k l0_0 l0_1 l1).bind fun t1264 => (some (t1264, ([] : List (S72)), true))) else (some (([] : List ByteArray), ([] : List (S72)), false))) else (some (([] : List ByteArray), ([] : List (S72)), false)))) = some (r1, r2, r3) := h
 clear h
 replace H := Option.bind_eq_some_iff.mp H
 obtain ⟨t1263, A30, H⟩ := H
 replace H : (if t1263 = true then (if (l1.length : Int) = (l0_1.length : Int) then ((impl_performed_at_impl_CrashDevice_1.f k l0_0 l0_1 l1).bind fun t1264 => (some (t1264, ([] : List (S72)), true))) else (some (([] : List ByteArray), ([] : List (S72)), false))) else (some (([] : List ByteArray), ([] : List (S72)), false))) = some (r1, r2, r3) := H
 have A3 := Aside0.mk A30
 clear A30
 by_cases c4 : t1263 = true
 ·
  subst c4
  rw [if_pos rfl] at H
  by_cases c5 : (l1.length : Int) = (l0_1.length : Int)
  ·
   rw [if_pos c5] at H
   have c5b0 : ((l1.length : Int) == (l0_1.length : Int)) = true := beq_iff_eq.mpr c5
   have c5b1 : ((l1.length : Int) != (l0_1.length : Int)) = false := bne_eq_false_iff_eq.mpr c5
   have c5b2 : (l1.length == l0_1.length) = true := by first | simpa using c5 | (simp at c5 ⊢; omega)
   clear c5
   replace H := Option.bind_eq_some_iff.mp H
   obtain ⟨t1264, A60, H⟩ := H
   replace H : (some (t1264, ([] : List (S72)), true)) = some (r1, r2, r3) := H
   have A6 := Aside0.mk A60
   clear A60
   simp only [Option.some.injEq, Prod.mk.injEq] at H
   obtain ⟨rfl, rfl, rfl⟩ := H
   go_enter Try.func99, Try.ntmps99
   go_wp2_with (first | ((with_reducible refine gate_dst (N := 2) rfl ?_); (try (refine gate_guard (by rfl) ?_; dsimp only)); refine box_event ?hg (N := 2) ?hd (cs := #[.slice A0_0 l0_0.length c0_0, .slice A0_1 l0_1.length c0_1]) (t := 42) ?hr ?_; (case hd => rfl); (case hg => rfl); (case hr => first | (go_simp; done) | (go_simp; rfl)); intro gb1260 hg w7 hbox hb; have BK1260 := Aside0.mk (hbox); have GW1260 := Aside0.mk ((by rw [hg]; exact (below_size (bs HB)) : w.heap.size ≤ gb1260)); have GE1260 := Aside0.mk ((by rw [hg]; exact (below_size (bs HB)) : w.heap.size ≤ gb1260)); replace HB := Aside0.mk (below_step (bs HB) hb); clear hb hbox hg) | ((with_reducible refine gate_dst (N := 3) rfl ?_); (try (refine gate_guard (by rfl) ?_; dsimp only)); refine box_event ?hg (N := 3) ?hd (cs := #[.slice A1 l1.length c1]) (t := 59) ?hr ?_; (case hd => rfl); (case hg => rfl); (case hr => first | (go_simp; done) | (go_simp; rfl)); intro gb1261 hg w8 hbox hb; have BK1261 := Aside0.mk (hbox); have GW1261 := Aside0.mk ((by rw [hg]; exact (below_size (bs1 HB GE1260)) : w.heap.size ≤ gb1261)); have GE1261 := Aside0.mk ((by rw [hg]; exact (below_size (bs1 HB GE1260)) : w.heap.size ≤ gb1261)); replace HB := Aside0.mk (below_step (bs1 HB GE1260) hb); have NB1260_1261 := Aside0.mk ((bn BK1260 hg : gb1260 ≠ gb1261)); have NB1261_1260 := Aside0.mk ((bm BK1260 hg : gb1261 ≠ gb1260)); replace BK1260 := nb BK1260 hb; clear hb hbox hg) | ((with_reducible refine gate_dst (N := 4) rfl ?_); (try (refine gate_guard (by rfl) ?_; dsimp only)); refine box_event ?hg (N := 4) ?hd (cs := #[.slice none 0 0, .slice none 0 0]) (t := 42) ?hr ?_; (case hd => rfl); (case hg => rfl); (case hr => first | (go_simp; done) | (go_simp; rfl)); intro gb1262 hg w9 hbox hb; have BK1262 := Aside0.mk (hbox); have GW1262 := Aside0.mk ((by rw [hg]; exact (below_size (bs2 HB GE1260 GE1261)) : w.heap.size ≤ gb1262)); have GE1262 := Aside0.mk ((by rw [hg]; exact (below_size (bs2 HB GE1260 GE1261)) : w.heap.size ≤ gb1262)); replace HB := Aside0.mk (below_step (bs2 HB GE1260 GE1261) hb); have NB1260_1262 := Aside0.mk ((bn BK1260 hg : gb1260 ≠ gb1262)); have NB1262_1260 := Aside0.mk ((bm BK1260 hg : gb1262 ≠ gb1260)); replace BK1260 := nb BK1260 hb; have NB1261_1262 := Aside0.mk ((bn BK1261 hg : gb1261 ≠ gb1262)); have NB1262_1261 := Aside0.mk ((bm BK1261 hg : gb1262 ≠ gb1261)); replace BK1261 := nb BK1261 hb; clear hb hbox hg; have hnb10 := NB1260_1261.out; have hnc10 := NB1261_1260.out; have hnb11 := NB1260_1262.out; have hnc11 := NB1262_1260.out; obtain ⟨hcz12_0, hcz12_1⟩ := cz2 BK1260; obtain ⟨hfz12_0, hfz12_1⟩ := fz2 BK1260) | ((with_reducible refine gate_callee (f := 76) rfl ?_); refine gL (some 7) rfl rfl Try.func76 (by kernel_rfl) rfl #[.agg #[.slice A0_0 l0_0.length c0_0, .slice A0_1 l0_1.length c0_1]] rfl ?_; (with_reducible refine (impl_GoodDevice.calls k _ _ l0_0 _ _ l0_1 true _ ?side1 ?side2 ?side3 ?side4 A3.out).mono ?_); (case side1 => exact cb HR0_0 HB); (case side2 => exact HC0_0.out); (case side3 => exact cb HR0_1 HB); (case side4 => exact HC0_1.out); rintro e w13 ⟨rfl, hb⟩; refine ⟨_, rfl, ?_⟩; replace BK1260 := nb BK1260 hb; replace BK1261 := nb BK1261 hb; replace BK1262 := nb BK1262 hb; replace HB := Aside0.mk (below_step (bs3 HB GE1260 GE1261 GE1262) hb); (try clear hb); (try clear hb2); (try clear hk); (try clear hi); have hnb14 := NB1261_1262.out; have hnc14 := NB1262_1261.out; have hcz15_0 := cz1 BK1261; have hfz15_0 := fz1 BK1261; obtain ⟨hcz16_0, hcz16_1⟩ := cz2 BK1260; obtain ⟨hfz16_0, hfz16_1⟩ := fz2 BK1260) | ((with_reducible refine gate_callee (f := 89) rfl ?_); refine gL (some 20) rfl rfl Try.func89 (by kernel_rfl) rfl #[.agg #[.slice A0_0 l0_0.length c0_0, .slice A0_1 l0_1.length c0_1], .func (.func 119) #[] #[.pointer (some ⟨gb1261, 0, none⟩)]] rfl ?_; (with_reducible refine (impl_performed_at_impl_CrashDevice_1.calls k _ _ l0_0 _ _ l0_1 gb1261 A1 c1 l1 t1264 _ ?side1 ?side2 ?side3 ?side4 ?side5 ?side6 ?side7 A6.out).mono ?_); (case side1 => exact cb HR0_0 HB); (case side2 => exact HC0_0.out); (case side3 => exact cb HR0_1 HB); (case side4 => exact HC0_1.out); (case side5 => exact cb HR1 HB); (case side6 => exact HC1.out); (case side7 => (with_reducible repeat (first | refine blk_drewN ?_ _ | refine blk_drew ?_ | refine blk_alloc ?_ _)); exact BK1261.out); rintro e w17 ⟨v1265, rfl, ho0, hb⟩; refine ⟨_, rfl, ?_⟩; have HO1266 := Aside0.mk (Kd.R_lower ho0 (below_size (bs3 HB GE1260 GE1261 GE1262))); replace BK1260 := nb BK1260 hb; replace BK1261 := nb BK1261 hb; replace BK1262 := nb BK1262 hb; replace HB := Aside0.mk (below_step (bs3 HB GE1260 GE1261 GE1262) hb); (try clear hb); (try clear hb2); (try clear hk); (try clear hi); (try clear ho0); obtain ⟨Ao18, co18, eo18⟩ := Kd.R_slice HO1266.out; subst eo18; obtain ⟨hcz19_0, hcz19_1⟩ := cz2 BK1262; obtain ⟨hfz19_0, hfz19_1⟩ := fz2 BK1262))
   refine bodyPost_ret (results_ct rfl _ _ gb1262 42 #[.slice Ao18 t1264.length co18, .slice none 0 0] (0, 0) _ rfl (by (with_reducible repeat (first | refine blk_drewN ?_ _ | refine blk_drew ?_ | refine blk_alloc ?_ _)); refine blk_put (cs := #[.slice Ao18 t1264.length co18, .slice none 0 0]) ?_ 1 _ rfl; (with_reducible repeat (first | refine blk_drewN ?_ _ | refine blk_drew ?_ | refine blk_alloc ?_ _)); refine blk_put (cs := #[.slice none 0 0, .slice none 0 0]) ?_ 0 _ rfl; (with_reducible repeat (first | refine blk_drewN ?_ _ | refine blk_drew ?_ | refine blk_alloc ?_ _)); exact BK1262.out) Try.underlying42 rfl (by kernel_rfl)) rfl ?_
   exact ⟨_, _, by first | rfl | (simp [errW_none, errW_some] <;> rfl) | (simp [*, errW_none, errW_some] <;> rfl), by (with_reducible repeat (first | apply Kd.R_alloc | apply Kd.R_drewN | apply Kd.R_drew)); exact Kd.R_mono (Kd.R_far (p := ⟨gb1262, 1, none⟩) (Kd.R_far (p := ⟨gb1262, 0, none⟩) (Kd.R_types HO1266.out BK1262.out (by decide)) (fun _ hk => hk.2) (.slice Ao18 t1264.length co18)) (fun _ hk => hk.2) (.slice none 0 0)) (fun _ hk => trivial), by first | exact Kd.R_nil _ _ _ _ _ | exact Kd.N_nil _ _ _ _ _ | exact Kd.V_nil _ _ _ _ _ | exact Kd.Q_nil _ _ _ _ _ | exact Kd.S_nil _ _ _ _ _, bs3 HB GE1260 GE1261 GE1262⟩
  ·
   rw [if_neg c5] at H
   have c5b0 : ((l1.length : Int) == (l0_1.length : Int)) = false := beq_eq_false_iff_ne.mpr c5
   have c5b1 : ((l1.length : Int) != (l0_1.length : Int)) = true := bne_iff_ne.mpr c5
   have c5b2 : (l1.length == l0_1.length) = false := by first | simpa using c5 | (simp at c5 ⊢; omega)
   simp only [Option.some.injEq, Prod.mk.injEq] at H
   obtain ⟨rfl, rfl, rfl⟩ := H
   go_enter Try.func99, Try.ntmps99
   go_wp2_with (first | ((with_reducible refine gate_dst (N := 2) rfl ?_); (try (refine gate_guard (by rfl) ?_; dsimp only)); refine box_event ?hg (N := 2) ?hd (cs := #[.slice A0_0 l0_0.length c0_0, .slice A0_1 l0_1.length c0_1]) (t := 42) ?hr ?_; (case hd => rfl); (case hg => rfl); (case hr => first | (go_simp; done) | (go_simp; rfl)); intro gb1260 hg w20 hbox hb; have BK1260 := Aside0.mk (hbox); have GW1260 := Aside0.mk ((by rw [hg]; exact (below_size (bs HB)) : w.heap.size ≤ gb1260)); have GE1260 := Aside0.mk ((by rw [hg]; exact (below_size (bs HB)) : w.heap.size ≤ gb1260)); replace HB := Aside0.mk (below_step (bs HB) hb); clear hb hbox hg) | ((with_reducible refine gate_dst (N := 3) rfl ?_); (try (refine gate_guard (by rfl) ?_; dsimp only)); refine box_event ?hg (N := 3) ?hd (cs := #[.slice A1 l1.length c1]) (t := 59) ?hr ?_; (case hd => rfl); (case hg => rfl); (case hr => first | (go_simp; done) | (go_simp; rfl)); intro gb1261 hg w21 hbox hb; have BK1261 := Aside0.mk (hbox); have GW1261 := Aside0.mk ((by rw [hg]; exact (below_size (bs1 HB GE1260)) : w.heap.size ≤ gb1261)); have GE1261 := Aside0.mk ((by rw [hg]; exact (below_size (bs1 HB GE1260)) : w.heap.size ≤ gb1261)); replace HB := Aside0.mk (below_step (bs1 HB GE1260) hb); have NB1260_1261 := Aside0.mk ((bn BK1260 hg : gb1260 ≠ gb1261)); have NB1261_1260 := Aside0.mk ((bm BK1260 hg : gb1261 ≠ gb1260)); replace BK1260 := nb BK1260 hb; clear hb hbox hg) | ((with_reducible refine gate_dst (N := 4) rfl ?_); (try (refine gate_guard (by rfl) ?_; dsimp only)); refine box_event ?hg (N := 4) ?hd (cs := #[.slice none 0 0, .slice none 0 0]) (t := 42) ?hr ?_; (case hd => rfl); (case hg => rfl); (case hr => first | (go_simp; done) | (go_simp; rfl)); intro gb1262 hg w22 hbox hb; have BK1262 := Aside0.mk (hbox); have GW1262 := Aside0.mk ((by rw [hg]; exact (below_size (bs2 HB GE1260 GE1261)) : w.heap.size ≤ gb1262)); have GE1262 := Aside0.mk ((by rw [hg]; exact (below_size (bs2 HB GE1260 GE1261)) : w.heap.size ≤ gb1262)); replace HB := Aside0.mk (below_step (bs2 HB GE1260 GE1261) hb); have NB1260_1262 := Aside0.mk ((bn BK1260 hg : gb1260 ≠ gb1262)); have NB1262_1260 := Aside0.mk ((bm BK1260 hg : gb1262 ≠ gb1260)); replace BK1260 := nb BK1260 hb; have NB1261_1262 := Aside0.mk ((bn BK1261 hg : gb1261 ≠ gb1262)); have NB1262_1261 := Aside0.mk ((bm BK1261 hg : gb1262 ≠ gb1261)); replace BK1261 := nb BK1261 hb; clear hb hbox hg; have hnb23 := NB1260_1261.out; have hnc23 := NB1261_1260.out; have hnb24 := NB1260_1262.out; have hnc24 := NB1262_1260.out; obtain ⟨hcz25_0, hcz25_1⟩ := cz2 BK1260; obtain ⟨hfz25_0, hfz25_1⟩ := fz2 BK1260) | ((with_reducible refine gate_callee (f := 76) rfl ?_); refine gL (some 7) rfl rfl Try.func76 (by kernel_rfl) rfl #[.agg #[.slice A0_0 l0_0.length c0_0, .slice A0_1 l0_1.length c0_1]] rfl ?_; (with_reducible refine (impl_GoodDevice.calls k _ _ l0_0 _ _ l0_1 true _ ?side1 ?side2 ?side3 ?side4 A3.out).mono ?_); (case side1 => exact cb HR0_0 HB); (case side2 => exact HC0_0.out); (case side3 => exact cb HR0_1 HB); (case side4 => exact HC0_1.out); rintro e w26 ⟨rfl, hb⟩; refine ⟨_, rfl, ?_⟩; replace BK1260 := nb BK1260 hb; replace BK1261 := nb BK1261 hb; replace BK1262 := nb BK1262 hb; replace HB := Aside0.mk (below_step (bs3 HB GE1260 GE1261 GE1262) hb); (try clear hb); (try clear hb2); (try clear hk); (try clear hi); have hnb27 := NB1261_1262.out; have hnc27 := NB1262_1261.out; have hcz28_0 := cz1 BK1261; have hfz28_0 := fz1 BK1261; obtain ⟨hcz29_0, hcz29_1⟩ := cz2 BK1260; obtain ⟨hfz29_0, hfz29_1⟩ := fz2 BK1260; obtain ⟨hcz30_0, hcz30_1⟩ := cz2 BK1262; obtain ⟨hfz30_0, hfz30_1⟩ := fz2 BK1262))
   refine bodyPost_ret (results_ct rfl _ _ gb1262 42 #[.slice none 0 0, .slice none 0 0] (0, 0) _ rfl (by (with_reducible repeat (first | refine blk_drewN ?_ _ | refine blk_drew ?_ | refine blk_alloc ?_ _)); refine blk_put (cs := #[.slice none 0 0, .slice none 0 0]) ?_ 1 _ rfl; (with_reducible repeat (first | refine blk_drewN ?_ _ | refine blk_drew ?_ | refine blk_alloc ?_ _)); refine blk_put (cs := #[.slice none 0 0, .slice none 0 0]) ?_ 0 _ rfl; (with_reducible repeat (first | refine blk_drewN ?_ _ | refine blk_drew ?_ | refine blk_alloc ?_ _)); exact BK1262.out) Try.underlying42 rfl (by kernel_rfl)) rfl ?_
   exact ⟨_, _, by first | rfl | (simp [errW_none, errW_some] <;> rfl) | (simp [*, errW_none, errW_some] <;> rfl), by first | exact Kd.R_nil _ _ _ _ _ | exact Kd.N_nil _ _ _ _ _ | exact Kd.V_nil _ _ _ _ _ | exact Kd.Q_nil _ _ _ _ _ | exact Kd.S_nil _ _ _ _ _, by first | exact Kd.R_nil _ _ _ _ _ | exact Kd.N_nil _ _ _ _ _ | exact Kd.V_nil _ _ _ _ _ | exact Kd.Q_nil _ _ _ _ _ | exact Kd.S_nil _ _ _ _ _, bs3 HB GE1260 GE1261 GE1262⟩
 ·
  replace c4 := Bool.eq_false_iff.mpr c4
  subst c4
  rw [if_neg (show ¬ (false = true) by decide)] at H
  simp only [Option.some.injEq, Prod.mk.injEq] at H
  obtain ⟨rfl, rfl, rfl⟩ := H
  go_enter Try.func99, Try.ntmps99
  go_wp2_with (first | ((with_reducible refine gate_dst (N := 2) rfl ?_); (try (refine gate_guard (by rfl) ?_; dsimp only)); refine box_event ?hg (N := 2) ?hd (cs := #[.slice A0_0 l0_0.length c0_0, .slice A0_1 l0_1.length c0_1]) (t := 42) ?hr ?_; (case hd => rfl); (case hg => rfl); (case hr => first | (go_simp; done) | (go_simp; rfl)); intro gb1260 hg w31 hbox hb; have BK1260 := Aside0.mk (hbox); have GW1260 := Aside0.mk ((by rw [hg]; exact (below_size (bs HB)) : w.heap.size ≤ gb1260)); have GE1260 := Aside0.mk ((by rw [hg]; exact (below_size (bs HB)) : w.heap.size ≤ gb1260)); replace HB := Aside0.mk (below_step (bs HB) hb); clear hb hbox hg) | ((with_reducible refine gate_dst (N := 3) rfl ?_); (try (refine gate_guard (by rfl) ?_; dsimp only)); refine box_event ?hg (N := 3) ?hd (cs := #[.slice A1 l1.length c1]) (t := 59) ?hr ?_; (case hd => rfl); (case hg => rfl); (case hr => first | (go_simp; done) | (go_simp; rfl)); intro gb1261 hg w32 hbox hb; have BK1261 := Aside0.mk (hbox); have GW1261 := Aside0.mk ((by rw [hg]; exact (below_size (bs1 HB GE1260)) : w.heap.size ≤ gb1261)); have GE1261 := Aside0.mk ((by rw [hg]; exact (below_size (bs1 HB GE1260)) : w.heap.size ≤ gb1261)); replace HB := Aside0.mk (below_step (bs1 HB GE1260) hb); have NB1260_1261 := Aside0.mk ((bn BK1260 hg : gb1260 ≠ gb1261)); have NB1261_1260 := Aside0.mk ((bm BK1260 hg : gb1261 ≠ gb1260)); replace BK1260 := nb BK1260 hb; clear hb hbox hg) | ((with_reducible refine gate_dst (N := 4) rfl ?_); (try (refine gate_guard (by rfl) ?_; dsimp only)); refine box_event ?hg (N := 4) ?hd (cs := #[.slice none 0 0, .slice none 0 0]) (t := 42) ?hr ?_; (case hd => rfl); (case hg => rfl); (case hr => first | (go_simp; done) | (go_simp; rfl)); intro gb1262 hg w33 hbox hb; have BK1262 := Aside0.mk (hbox); have GW1262 := Aside0.mk ((by rw [hg]; exact (below_size (bs2 HB GE1260 GE1261)) : w.heap.size ≤ gb1262)); have GE1262 := Aside0.mk ((by rw [hg]; exact (below_size (bs2 HB GE1260 GE1261)) : w.heap.size ≤ gb1262)); replace HB := Aside0.mk (below_step (bs2 HB GE1260 GE1261) hb); have NB1260_1262 := Aside0.mk ((bn BK1260 hg : gb1260 ≠ gb1262)); have NB1262_1260 := Aside0.mk ((bm BK1260 hg : gb1262 ≠ gb1260)); replace BK1260 := nb BK1260 hb; have NB1261_1262 := Aside0.mk ((bn BK1261 hg : gb1261 ≠ gb1262)); have NB1262_1261 := Aside0.mk ((bm BK1261 hg : gb1262 ≠ gb1261)); replace BK1261 := nb BK1261 hb; clear hb hbox hg; have hnb34 := NB1260_1261.out; have hnc34 := NB1261_1260.out; have hnb35 := NB1260_1262.out; have hnc35 := NB1262_1260.out; obtain ⟨hcz36_0, hcz36_1⟩ := cz2 BK1260; obtain ⟨hfz36_0, hfz36_1⟩ := fz2 BK1260) | ((with_reducible refine gate_callee (f := 76) rfl ?_); refine gL (some 7) rfl rfl Try.func76 (by kernel_rfl) rfl #[.agg #[.slice A0_0 l0_0.length c0_0, .slice A0_1 l0_1.length c0_1]] rfl ?_; (with_reducible refine (impl_GoodDevice.calls k _ _ l0_0 _ _ l0_1 false _ ?side1 ?side2 ?side3 ?side4 A3.out).mono ?_); (case side1 => exact cb HR0_0 HB); (case side2 => exact HC0_0.out); (case side3 => exact cb HR0_1 HB); (case side4 => exact HC0_1.out); rintro e w37 ⟨rfl, hb⟩; refine ⟨_, rfl, ?_⟩; replace BK1260 := nb BK1260 hb; replace BK1261 := nb BK1261 hb; replace BK1262 := nb BK1262 hb; replace HB := Aside0.mk (below_step (bs3 HB GE1260 GE1261 GE1262) hb); (try clear hb); (try clear hb2); (try clear hk); (try clear hi); have hnb38 := NB1262_1261.out; have hnc38 := NB1261_1262.out; obtain ⟨hcz39_0, hcz39_1⟩ := cz2 BK1262; obtain ⟨hfz39_0, hfz39_1⟩ := fz2 BK1262))
  refine bodyPost_ret (results_ct rfl _ _ gb1262 42 #[.slice none 0 0, .slice none 0 0] (0, 0) _ rfl (by (with_reducible repeat (first | refine blk_drewN ?_ _ | refine blk_drew ?_ | refine blk_alloc ?_ _)); refine blk_put (cs := #[.slice none 0 0, .slice none 0 0]) ?_ 1 _ rfl; (with_reducible repeat (first | refine blk_drewN ?_ _ | refine blk_drew ?_ | refine blk_alloc ?_ _)); refine blk_put (cs := #[.slice none 0 0, .slice none 0 0]) ?_ 0 _ rfl; (with_reducible repeat (first | refine blk_drewN ?_ _ | refine blk_drew ?_ | refine blk_alloc ?_ _)); exact BK1262.out) Try.underlying42 rfl (by kernel_rfl)) rfl ?_
  exact ⟨_, _, by first | rfl | (simp [errW_none, errW_some] <;> rfl) | (simp [*, errW_none, errW_some] <;> rfl), by first | exact Kd.R_nil _ _ _ _ _ | exact Kd.N_nil _ _ _ _ _ | exact Kd.V_nil _ _ _ _ _ | exact Kd.Q_nil _ _ _ _ _ | exact Kd.S_nil _ _ _ _ _, by first | exact Kd.R_nil _ _ _ _ _ | exact Kd.N_nil _ _ _ _ _ | exact Kd.V_nil _ _ _ _ _ | exact Kd.Q_nil _ _ _ _ _ | exact Kd.S_nil _ _ _ _ _, bs3 HB GE1260 GE1261 GE1262⟩

/-! ### impl_CrashStore: function 51 -/
def impl_CrashStore.j0 : Nat → List Bool → Int → Bool → List ByteArray → List (S72) → List ByteArray → Int → Option (List ByteArray × (List (S72)) × List ByteArray × Int × Bool)
 | 0, _, _, _, _, _, _, _ => none
 | k + 1, x1, x2, x22, x1268000, x1268001, x1268002, x1268003 => if x22 = true then (some (([] : List ByteArray), ([] : List (S72)), ([] : List ByteArray), 0, false)) else ((impl_CrashDevice.f k x1268000 x1268001 x1).bind fun bt1271 => (if bt1271.2.2 = true then (if 0 ≤ x2 then (if x2 ≤ (x1268002.length : Int) then ((slices_Clone_string_string.f (x1268002.take (x2 : Int).toNat)).bind fun t1280 => (some (bt1271.1, bt1271.2.1, t1280, x2, true))) else (none)) else (none)) else (some (([] : List ByteArray), ([] : List (S72)), ([] : List ByteArray), 0, false))))
def impl_CrashStore.f (k : Nat) (l0_0 : List ByteArray) (l0_1 : List (S72)) (l0_2 : List ByteArray) (a0_3 : Int) (l1 : List Bool) (a2 : Int) : Option (List ByteArray × (List (S72)) × List ByteArray × Int × Bool) := (impl_GoodStore.f k l0_0 l0_1 l0_2 a0_3).bind fun t1269 => (if t1269 = true then ((impl_within.f a2 a0_3 (l0_2.length : Int)).bind fun t1270 => (impl_CrashStore.j0 k l1 a2 (!t1270) l0_0 l0_1 l0_2 a0_3)) else (impl_CrashStore.j0 k l1 a2 true l0_0 l0_1 l0_2 a0_3))
theorem impl_CrashStore.mono_l : ∀ k, (∀ y0 y1 y2 y3 y4 y5 y6, LeO (impl_CrashStore.j0 k y0 y1 y2 y3 y4 y5 y6) (impl_CrashStore.j0 (k + 1) y0 y1 y2 y3 y4 y5 y6))
 | 0 => fun _ _ _ _ _ _ _ r h => by simp [impl_CrashStore.j0] at h
 | k + 1 => by
  have ih0 := impl_CrashStore.mono_l k
  ·
   intro y0 y1 y2 y3 y4 y5 y6
   unfold impl_CrashStore.j0
   repeat' first
   | (with_reducible exact ih0 _ _ _ _ _ _ _)
   | (with_reducible exact impl_CrashDevice.mono _ _ _ _)
   | (with_reducible exact impl_GoodStore.mono _ _ _ _ _)
   | (with_reducible exact LeO.refl _)
   | (with_reducible exact LeO.none _)
   | (with_reducible refine LeO.ite ?_ ?_)
   | (with_reducible refine LeO.bind ?_ (fun _ => ?_))
   | exact ih0 _ _ _ _ _ _ _
   | exact impl_CrashDevice.mono _ _ _ _
   | exact impl_GoodStore.mono _ _ _ _ _
   | exact LeO.none _
   | refine LeO.ite ?_ ?_
   | refine LeO.bind ?_ (fun _ => ?_)
theorem impl_CrashStore.mono : ∀ a0 a1 a2 a3 a4 a5 k, LeO (impl_CrashStore.f k a0 a1 a2 a3 a4 a5) (impl_CrashStore.f (k + 1) a0 a1 a2 a3 a4 a5) := by
 intro a0 a1 a2 a3 a4 a5 k
 have ih0 := impl_CrashStore.mono_l k
 unfold impl_CrashStore.f
 repeat' first
   | (with_reducible exact ih0 _ _ _ _ _ _ _)
   | (with_reducible exact impl_CrashDevice.mono _ _ _ _)
   | (with_reducible exact impl_GoodStore.mono _ _ _ _ _)
   | (with_reducible exact LeO.refl _)
   | (with_reducible exact LeO.none _)
   | (with_reducible refine LeO.ite ?_ ?_)
   | (with_reducible refine LeO.bind ?_ (fun _ => ?_))
   | exact ih0 _ _ _ _ _ _ _
   | exact impl_CrashDevice.mono _ _ _ _
   | exact impl_GoodStore.mono _ _ _ _ _
   | exact LeO.none _
   | refine LeO.ite ?_ ?_
   | refine LeO.bind ?_ (fun _ => ?_)
def impl_CrashStore.T6 : Bool × List (List Nat × List Nat) := (true, [([], []), ([], []), ([1], [1]), ([], []), ([2, 3], [2, 3]), ([4], [4]), ([], []), ([0, 5, 6], [0, 5, 6]), ([7, 5, 0, 1, 2, 3, 4, 5, 6, 7], [7]), ([8, 0, 1, 2, 3, 4, 5, 6, 7, 8], [])])
def impl_CrashStore.B6 : List Nat := [0, 0, 2, 0, 14, 30, 0, 127, 255, 511]
theorem impl_CrashStore.tab6 : rtab .any (opsOf Try.f51 6) = impl_CrashStore.T6 := by kernel_rfl
theorem impl_CrashStore.bits6 : waitsOk impl_CrashStore.T6.2 impl_CrashStore.B6 = true := by kernel_rfl
set_option maxHeartbeats 8000000 in
set_option maxRecDepth 100000 in
theorem impl_CrashStore.calls (k : Nat) (A0_0 : Option Addr) (c0_0 : Nat) (l0_0 : List ByteArray) (A0_1 : Option Addr) (c0_1 : Nat) (l0_1 : List (S72)) (A0_2 : Option Addr) (c0_2 : Nat) (l0_2 : List ByteArray) (a0_3 : Int) (A1 : Option Addr) (c1 : Nat) (l1 : List Bool) (a2 : Int) (r1 : List ByteArray) (r2 : List (S72)) (r3 : List ByteArray) (r4 : Int) (r5 : Bool) (w : World) (hr0_0 : Kd.C Kd.string w A0_0 l0_0.length l0_0) (hc0_0 : l0_0.length ≤ c0_0) (hr0_1 : Kd.C k72 w A0_1 l0_1.length l0_1) (hc0_1 : l0_1.length ≤ c0_1) (hr0_2 : Kd.C Kd.string w A0_2 l0_2.length l0_2) (hc0_2 : l0_2.length ≤ c0_2) (hr1 : Kd.C Kd.bool w A1 l1.length l1) (hc1 : l1.length ≤ c1) (h : impl_CrashStore.f k l0_0 l0_1 l0_2 a0_3 l1 a2 = some (r1, r2, r3, r4, r5)) :
  Calls Try.prog 51 #[.agg #[.slice A0_0 l0_0.length c0_0, .slice A0_1 l0_1.length c0_1, .slice A0_2 l0_2.length c0_2, .int .i64 a0_3], .slice A1 l1.length c1, .int .i64 a2] w fun e w' => ∃ v0_ v1_ v2_ : Value, e = .returned (.tuple #[.agg #[v0_, v1_, v2_, .int .i64 r4], .bool r5]) ∧ Kd.R Kd.string 9 w' w.heap.size (fun k_ => some k_ ≠ (v2_ : Value).ownBlock) v0_ r1 ∧ Kd.R k72 72 w' w.heap.size (fun _ => True) v1_ r2 ∧ Kd.R Kd.string 9 w' w.heap.size (fun k_ => some k_ ≠ (v0_ : Value).ownBlock) v2_ r3 ∧ Below w.heap.size w w' := by
 have hu44 := Try.underlying44
 have hu42 := Try.underlying42
 have HR0_0 := Aside0.mk hr0_0
 have HC0_0 := Aside0.mk hc0_0
 clear hr0_0 hc0_0
 have HR0_1 := Aside0.mk hr0_1
 have HC0_1 := Aside0.mk hc0_1
 clear hr0_1 hc0_1
 have HR0_2 := Aside0.mk hr0_2
 have HC0_2 := Aside0.mk hc0_2
 clear hr0_2 hc0_2
 have HR1 := Aside0.mk hr1
 have HC1 := Aside0.mk hc1
 clear hr1 hc1
 have HB := Aside0.mk (Below.refl w.heap.size w)
 have H : ((impl_GoodStore.f k l0_0 l0_1 l0_2 a0_3).bind fun t1269 => (if t1269 = true then ((impl_within.f a2 a0_3 (l0_2.length : Int)).bind fun t1270 => (impl_CrashStore.j0 k l1 a2 (!t1270) l0_0 l0_1 l0_2 a0_3)) else (impl_CrashStore.j0 k l1 a2 true l0_0 l0_1 l0_2 a0_3))) = some (r1, r2, r3, r4, r5) := h
 clear h
 have HC4 := Aside0.mk H
 clear H
 go_enter Try.func51, Try.ntmps51
 go_upto_region 1 with (first | ((with_reducible refine gate_dst (N := 3) rfl ?_); (try (refine gate_guard (by rfl) ?_; dsimp only)); refine box_event ?hg (N := 3) ?hd (cs := #[.slice A0_0 l0_0.length c0_0, .slice A0_1 l0_1.length c0_1, .slice A0_2 l0_2.length c0_2, .int .i64 a0_3]) (t := 44) ?hr ?_; (case hd => rfl); (case hg => rfl); (case hr => first | (go_simp; done) | (go_simp; rfl)); intro gb1267 hg w5 hbox hb; have BK1267 := Aside0.mk (hbox); have GW1267 := Aside0.mk ((by rw [hg]; exact (below_size (bs HB)) : w.heap.size ≤ gb1267)); have GE1267 := Aside0.mk ((by rw [hg]; exact (below_size (bs HB)) : w.heap.size ≤ gb1267)); replace HB := Aside0.mk (below_step (bs HB) hb); clear hb hbox hg) | ((with_reducible refine gate_dst (N := 6) rfl ?_); (try (refine gate_guard (by rfl) ?_; dsimp only)); refine box_event ?hg (N := 6) ?hd (cs := #[.slice none 0 0, .slice none 0 0, .slice none 0 0, .int .i64 0]) (t := 44) ?hr ?_; (case hd => rfl); (case hg => rfl); (case hr => first | (go_simp; done) | (go_simp; rfl)); intro gb1268 hg w6 hbox hb; have BK1268 := Aside0.mk (hbox); have GW1268 := Aside0.mk ((by rw [hg]; exact (below_size (bs1 HB GE1267)) : w.heap.size ≤ gb1268)); have GE1268 := Aside0.mk ((by rw [hg]; exact (below_size (bs1 HB GE1267)) : w.heap.size ≤ gb1268)); replace HB := Aside0.mk (below_step (bs1 HB GE1267) hb); have NB1267_1268 := Aside0.mk ((bn BK1267 hg : gb1267 ≠ gb1268)); have NB1268_1267 := Aside0.mk ((bm BK1267 hg : gb1268 ≠ gb1267)); replace BK1267 := nb BK1267 hb; clear hb hbox hg))
 (try simp only [Act.put, List.setIfInBounds_toArray, List.set_cons_zero, List.set_cons_succ])
 go_cut [22] (fun v22 wc => ∃ (kq : Nat) (x22_3 : Bool), v22 = .bool x22_3 ∧ Aside0 (impl_CrashStore.j0 kq l1 a2 x22_3 l0_0 l0_1 l0_2 a0_3 = some (r1, r2, r3, r4, r5)) ∧ Aside0 (kq ≤ k) ∧ Aside0 (wc.heap[gb1267]? = some (.cells #[(.slice A0_0 l0_0.length c0_0), (.slice A0_1 l0_1.length c0_1), (.slice A0_2 l0_2.length c0_2), .int .i64 a0_3] 44 (0, 0))) ∧ Aside0 (wc.heap[gb1268]? = some (.cells #[(.slice none 0 0), (.slice none 0 0), (.slice none 0 0), .int .i64 0] 44 (0, 0))) ∧ Aside0 (Below w.heap.size w wc))
 case first =>
  have H := HC4.out
  clear HC4
  replace H := Option.bind_eq_some_iff.mp H
  obtain ⟨t1269, A70, H⟩ := H
  replace H : (if t1269 = true then ((impl_within.f a2 a0_3 (l0_2.length : Int)).bind fun t1270 => (impl_CrashStore.j0 k l1 a2 (!t1270) l0_0 l0_1 l0_2 a0_3)) else (impl_CrashStore.j0 k l1 a2 true l0_0 l0_1 l0_2 a0_3)) = some (r1, r2, r3, r4, r5) := H
  have A7 := Aside0.mk A70
  clear A70
  by_cases c8 : t1269 = true
  ·
   subst c8
   rw [if_pos rfl] at H
   replace H := Option.bind_eq_some_iff.mp H
   obtain ⟨t1270, A90, H⟩ := H
   replace H : (impl_CrashStore.j0 k l1 a2 (!t1270) l0_0 l0_1 l0_2 a0_3) = some (r1, r2, r3, r4, r5) := H
   have A9 := Aside0.mk A90
   clear A90
   have H' := Aside0.mk H
   clear H
   have hnb10 := NB1267_1268.out
   have hnc10 := NB1268_1267.out
   obtain ⟨hcz11_0, hcz11_1, hcz11_2, hcz11_3⟩ := cz4 BK1267
   obtain ⟨hfz11_0, hfz11_1, hfz11_2, hfz11_3⟩ := fz4 BK1267
   go_wp2_with (first | ((with_reducible refine gate_callee (f := 28) rfl ?_); refine gL (some 11) rfl rfl Try.func28 (by kernel_rfl) rfl #[.agg #[.slice A0_0 l0_0.length c0_0, .slice A0_1 l0_1.length c0_1, .slice A0_2 l0_2.length c0_2, .int .i64 a0_3]] rfl ?_; (with_reducible refine (impl_GoodStore.calls k _ _ l0_0 _ _ l0_1 _ _ l0_2 a0_3 true _ ?side1 ?side2 ?side3 ?side4 ?side5 ?side6 A7.out).mono ?_); (case side1 => exact cb HR0_0 HB); (case side2 => exact HC0_0.out); (case side3 => exact cb HR0_1 HB); (case side4 => exact HC0_1.out); (case side5 => exact cb HR0_2 HB); (case side6 => exact HC0_2.out); rintro e w12 ⟨rfl, hb⟩; refine ⟨_, rfl, ?_⟩; replace BK1267 := nb BK1267 hb; replace BK1268 := nb BK1268 hb; replace HB := Aside0.mk (below_step (bs2 HB GE1267 GE1268) hb); (try clear hb); (try clear hb2); (try clear hk); (try clear hi); obtain ⟨hcz13_0, hcz13_1, hcz13_2, hcz13_3⟩ := cz4 BK1267; obtain ⟨hfz13_0, hfz13_1, hfz13_2, hfz13_3⟩ := fz4 BK1267) | (go_at_call 77; (with_reducible refine (impl_within.calls a2 a0_3 (l0_2.length : Int) t1270 _ A9.out).mono ?_); rintro e w' ⟨rfl, ⟨nd, rfl⟩⟩))
   go_meet
   case rel => exact ⟨_, (!t1270), (by first | rfl | (simp; done) | (simp [*]; done)), H', ⟨by first | omega | exact Nat.le_refl _⟩, ⟨bk BK1267⟩, ⟨bk BK1268⟩, ⟨bs2 HB GE1267 GE1268⟩⟩
  ·
   replace c8 := Bool.eq_false_iff.mpr c8
   subst c8
   rw [if_neg (show ¬ (false = true) by decide)] at H
   have H' := Aside0.mk H
   clear H
   have hnb14 := NB1267_1268.out
   have hnc14 := NB1268_1267.out
   obtain ⟨hcz15_0, hcz15_1, hcz15_2, hcz15_3⟩ := cz4 BK1267
   obtain ⟨hfz15_0, hfz15_1, hfz15_2, hfz15_3⟩ := fz4 BK1267
   go_wp2_with (first | ((with_reducible refine gate_callee (f := 28) rfl ?_); refine gL (some 11) rfl rfl Try.func28 (by kernel_rfl) rfl #[.agg #[.slice A0_0 l0_0.length c0_0, .slice A0_1 l0_1.length c0_1, .slice A0_2 l0_2.length c0_2, .int .i64 a0_3]] rfl ?_; (with_reducible refine (impl_GoodStore.calls k _ _ l0_0 _ _ l0_1 _ _ l0_2 a0_3 false _ ?side1 ?side2 ?side3 ?side4 ?side5 ?side6 A7.out).mono ?_); (case side1 => exact cb HR0_0 HB); (case side2 => exact HC0_0.out); (case side3 => exact cb HR0_1 HB); (case side4 => exact HC0_1.out); (case side5 => exact cb HR0_2 HB); (case side6 => exact HC0_2.out); rintro e w16 ⟨rfl, hb⟩; refine ⟨_, rfl, ?_⟩; replace BK1267 := nb BK1267 hb; replace BK1268 := nb BK1268 hb; replace HB := Aside0.mk (below_step (bs2 HB GE1267 GE1268) hb); (try clear hb); (try clear hb2); (try clear hk); (try clear hi)))
   go_meet
   case rel => exact ⟨_, (true), (by first | rfl | (simp; done) | (simp [*]; done)), H', ⟨by first | omega | exact Nat.le_refl _⟩, ⟨bk BK1267⟩, ⟨bk BK1268⟩, ⟨bs2 HB GE1267 GE1268⟩⟩
 case rest =>
  clear HC4
  try clear c1
  try clear c2
  try clear p2
  try clear c5
  try clear c8
  try clear c10
  try clear c14
  try clear hcz11_0 hcz11_1 hcz11_2 hcz11_3
  try clear hcz13_0 hcz13_1 hcz13_2 hcz13_3
  try clear hcz15_0 hcz15_1 hcz15_2 hcz15_3
  try clear hfz11_0 hfz11_1 hfz11_2 hfz11_3
  try clear hfz13_0 hfz13_1 hfz13_2 hfz13_3
  try clear hfz15_0 hfz15_1 hfz15_2 hfz15_3
  obtain ⟨kq, x22_3, rfl, HA, HJ3, BK1267, BK1268, HB⟩ := hcut
  cases kq with
  | zero => exact absurd HA.out (by simp [impl_CrashStore.j0])
  | succ kj3 =>
   have H := HA.out
   clear HA
   simp only [impl_CrashStore.j0] at H
   by_cases c17 : x22_3 = true
   ·
    subst c17
    rw [if_pos rfl] at H
    simp only [Option.some.injEq, Prod.mk.injEq] at H
    obtain ⟨rfl, rfl, rfl, rfl, rfl⟩ := H
    have hnb18 := NB1268_1267.out
    have hnc18 := NB1267_1268.out
    obtain ⟨hcz19_0, hcz19_1, hcz19_2, hcz19_3⟩ := cz4 BK1268
    obtain ⟨hfz19_0, hfz19_1, hfz19_2, hfz19_3⟩ := fz4 BK1268
    go_wp2
    refine bodyPost_ret (results_ct rfl _ _ gb1268 44 #[.slice none 0 0, .slice none 0 0, .slice none 0 0, .int .i64 0] (0, 0) _ rfl (by (with_reducible repeat (first | refine blk_drewN ?_ _ | refine blk_drew ?_ | refine blk_alloc ?_ _)); refine blk_put (cs := #[.slice none 0 0, .slice none 0 0, .slice none 0 0, .int .i64 0]) ?_ 3 _ rfl; (with_reducible repeat (first | refine blk_drewN ?_ _ | refine blk_drew ?_ | refine blk_alloc ?_ _)); refine blk_put (cs := #[.slice none 0 0, .slice none 0 0, .slice none 0 0, .int .i64 0]) ?_ 2 _ rfl; (with_reducible repeat (first | refine blk_drewN ?_ _ | refine blk_drew ?_ | refine blk_alloc ?_ _)); refine blk_put (cs := #[.slice none 0 0, .slice none 0 0, .slice none 0 0, .int .i64 0]) ?_ 1 _ rfl; (with_reducible repeat (first | refine blk_drewN ?_ _ | refine blk_drew ?_ | refine blk_alloc ?_ _)); refine blk_put (cs := #[.slice none 0 0, .slice none 0 0, .slice none 0 0, .int .i64 0]) ?_ 0 _ rfl; (with_reducible repeat (first | refine blk_drewN ?_ _ | refine blk_drew ?_ | refine blk_alloc ?_ _)); exact BK1268.out) Try.underlying44 rfl (by kernel_rfl)) rfl ?_
    exact ⟨_, _, _, by first | rfl | (simp [errW_none, errW_some] <;> rfl) | (simp [*, errW_none, errW_some] <;> rfl), by first | exact Kd.R_nil _ _ _ _ _ | exact Kd.N_nil _ _ _ _ _ | exact Kd.V_nil _ _ _ _ _ | exact Kd.Q_nil _ _ _ _ _ | exact Kd.S_nil _ _ _ _ _, by first | exact Kd.R_nil _ _ _ _ _ | exact Kd.N_nil _ _ _ _ _ | exact Kd.V_nil _ _ _ _ _ | exact Kd.Q_nil _ _ _ _ _ | exact Kd.S_nil _ _ _ _ _, by first | exact Kd.R_nil _ _ _ _ _ | exact Kd.N_nil _ _ _ _ _ | exact Kd.V_nil _ _ _ _ _ | exact Kd.Q_nil _ _ _ _ _ | exact Kd.S_nil _ _ _ _ _, bs2 HB GE1267 GE1268⟩
   ·
    replace c17 := Bool.eq_false_iff.mpr c17
    subst c17
    rw [if_neg (show ¬ (false = true) by decide)] at H
    replace H := Option.bind_eq_some_iff.mp H
    obtain ⟨⟨t1271, t1274, t1277⟩, A200, H⟩ := H
    replace H : (if t1277 = true then (if 0 ≤ a2 then (if a2 ≤ (l0_2.length : Int) then ((slices_Clone_string_string.f (l0_2.take (a2 : Int).toNat)).bind fun t1280 => (some (t1271, t1274, t1280, a2, true))) else (none)) else (none)) else (some (([] : List ByteArray), ([] : List (S72)), ([] : List ByteArray), 0, false))) = some (r1, r2, r3, r4, r5) := H
    have A20 := Aside0.mk A200
    clear A200
    by_cases c21 : t1277 = true
    ·
     subst c21
     rw [if_pos rfl] at H
     by_cases c22 : 0 ≤ a2
     ·
      rw [if_pos c22] at H
      have c22b0 := eq_true c22
      have c22b1 : decide (0 ≤ a2) = true := decide_eq_true c22
      clear c22
      by_cases c23 : a2 ≤ (l0_2.length : Int)
      ·
       rw [if_pos c23] at H
       have c23b0 := eq_true c23
       have c23b1 : decide (a2 ≤ (l0_2.length : Int)) = true := decide_eq_true c23
       clear c23
       replace H := Option.bind_eq_some_iff.mp H
       obtain ⟨t1280, A240, H⟩ := H
       replace H : (some (t1271, t1274, t1280, a2, true)) = some (r1, r2, r3, r4, r5) := H
       have A24 := Aside0.mk A240
       clear A240
       simp only [Option.some.injEq, Prod.mk.injEq] at H
       obtain ⟨rfl, rfl, rfl, rfl, rfl⟩ := H
       have hnb25 := NB1267_1268.out
       have hnc25 := NB1268_1267.out
       obtain ⟨hcz26_0, hcz26_1, hcz26_2, hcz26_3⟩ := cz4 BK1267
       obtain ⟨hfz26_0, hfz26_1, hfz26_2, hfz26_3⟩ := fz4 BK1267
       try go_wp2_with (first | ((with_reducible refine gate_callee (f := 99) rfl ?_); refine gL (some 28) rfl rfl Try.func99 (by kernel_rfl) rfl #[.agg #[.slice A0_0 l0_0.length c0_0, .slice A0_1 l0_1.length c0_1], .slice A1 l1.length c1] rfl ?_; (with_reducible refine (impl_CrashDevice.calls kj3 _ _ l0_0 _ _ l0_1 _ _ l1 t1271 t1274 true _ ?side1 ?side2 ?side3 ?side4 ?side5 ?side6 A20.out).mono ?_); (case side1 => exact cb HR0_0 HB); (case side2 => exact HC0_0.out); (case side3 => exact cb HR0_1 HB); (case side4 => exact HC0_1.out); (case side5 => exact cb HR1 HB); (case side6 => exact HC1.out); rintro e w27 ⟨v1272, v1275, rfl, ho0, ho1, hb⟩; refine ⟨_, rfl, ?_⟩; have HO1273 := Aside0.mk (Kd.R_lower ho0 (below_size (bs2 HB GE1267 GE1268))); have HO1276 := Aside0.mk (Kd.R_lower ho1 (below_size (bs2 HB GE1267 GE1268))); replace BK1267 := nb BK1267 hb; replace BK1268 := nb BK1268 hb; replace HB := Aside0.mk (below_step (bs2 HB GE1267 GE1268) hb); (try clear hb); (try clear hb2); (try clear hk); (try clear hi); (try clear ho0); (try clear ho1)) | ((with_reducible refine gate_dst (N := 8) rfl ?_); (try (refine gate_guard (by rfl) ?_; dsimp only)); refine box_event ?hg (N := 8) ?hd (cs := #[.slice none 0 0, .slice none 0 0]) (t := 42) ?hr ?_; (case hd => rfl); (case hg => rfl); (case hr => first | (go_simp; done) | (go_simp; rfl)); intro gb1278 hg w28 hbox hb; replace HO1273 := nr HO1273 hb; replace HO1276 := nr HO1276 hb; have BK1278 := Aside0.mk (hbox); have GW1278 := Aside0.mk ((by rw [hg]; exact (below_size (bs2 HB GE1267 GE1268)) : w.heap.size ≤ gb1278)); have GE1278 := Aside0.mk ((by rw [hg]; exact (below_size (bs2 HB GE1267 GE1268)) : w.heap.size ≤ gb1278)); replace HB := Aside0.mk (below_step (bs2 HB GE1267 GE1268) hb); have NB1267_1278 := Aside0.mk ((bn BK1267 hg : gb1267 ≠ gb1278)); have NB1278_1267 := Aside0.mk ((bm BK1267 hg : gb1278 ≠ gb1267)); replace BK1267 := nb BK1267 hb; have NB1268_1278 := Aside0.mk ((bn BK1268 hg : gb1268 ≠ gb1278)); have NB1278_1268 := Aside0.mk ((bm BK1268 hg : gb1278 ≠ gb1268)); replace BK1268 := nb BK1268 hb; clear hb hbox hg; obtain ⟨Ao29, co29, eo29⟩ := Kd.R_slice HO1273.out; subst eo29; have hnb30 := NB1278_1267.out; have hnc30 := NB1267_1278.out; have hnb31 := NB1278_1268.out; have hnc31 := NB1268_1278.out; obtain ⟨hcz32_0, hcz32_1⟩ := cz2 BK1278; obtain ⟨hfz32_0, hfz32_1⟩ := fz2 BK1278; obtain ⟨Ao33, co33, eo33⟩ := Kd.R_slice HO1276.out; subst eo33))
       have n0_ : Aside0 (Kd.R Kd.string 9 ((w28.setCell ⟨gb1278, 0, none⟩ (.slice Ao29 t1271.length co29)).setCell ⟨gb1278, 1, none⟩ (.slice Ao33 t1274.length co33)) w.heap.size (fun _ => True) (.slice Ao29 t1271.length co29) t1271) := ⟨by (with_reducible repeat (first | apply Kd.R_alloc | apply Kd.R_drewN | apply Kd.R_drew)); exact Kd.R_mono (Kd.R_far (p := ⟨gb1278, 1, none⟩) (Kd.R_far (p := ⟨gb1278, 0, none⟩) (Kd.R_types HO1273.out BK1278.out (by decide)) (fun _ hk => hk.2) (.slice Ao29 t1271.length co29)) (fun _ hk => hk.2) (.slice Ao33 t1274.length co33)) (fun _ hk => trivial)⟩
       have n1_ : Aside0 (Kd.R k72 72 ((w28.setCell ⟨gb1278, 0, none⟩ (.slice Ao29 t1271.length co29)).setCell ⟨gb1278, 1, none⟩ (.slice Ao33 t1274.length co33)) w.heap.size (fun _ => True) (.slice Ao33 t1274.length co33) t1274) := ⟨by (with_reducible repeat (first | apply Kd.R_alloc | apply Kd.R_drewN | apply Kd.R_drew)); exact Kd.R_mono (Kd.R_far (p := ⟨gb1278, 1, none⟩) (Kd.R_far (p := ⟨gb1278, 0, none⟩) (Kd.R_types HO1276.out BK1278.out (by decide)) (fun _ hk => hk.2) (.slice Ao29 t1271.length co29)) (fun _ hk => hk.2) (.slice Ao33 t1274.length co33)) (fun _ hk => trivial)⟩
       have n2_ : Aside0 (((w28.setCell ⟨gb1278, 0, none⟩ (.slice Ao29 t1271.length co29)).setCell ⟨gb1278, 1, none⟩ (.slice Ao33 t1274.length co33)).heap[gb1267]? = some (.cells #[.slice A0_0 l0_0.length c0_0, .slice A0_1 l0_1.length c0_1, .slice A0_2 l0_2.length c0_2, .int .i64 a0_3] 44 (0, 0))) := ⟨bf BK1267 NB1267_1278⟩
       have n3_ : Aside0 (((w28.setCell ⟨gb1278, 0, none⟩ (.slice Ao29 t1271.length co29)).setCell ⟨gb1278, 1, none⟩ (.slice Ao33 t1274.length co33)).heap[gb1268]? = some (.cells #[.slice none 0 0, .slice none 0 0, .slice none 0 0, .int .i64 0] 44 (0, 0))) := ⟨bf BK1268 NB1268_1278⟩
       have n4_ : Aside0 (((w28.setCell ⟨gb1278, 0, none⟩ (.slice Ao29 t1271.length co29)).setCell ⟨gb1278, 1, none⟩ (.slice Ao33 t1274.length co33)).heap[gb1278]? = some (.cells #[.slice Ao29 t1271.length co29, .slice Ao33 t1274.length co33] 42 (0, 0))) := ⟨by (with_reducible repeat (first | refine blk_drewN ?_ _ | refine blk_drew ?_ | refine blk_alloc ?_ _)); refine blk_put (cs := #[.slice Ao29 t1271.length co29, .slice none 0 0]) ?_ 1 _ rfl; (with_reducible repeat (first | refine blk_drewN ?_ _ | refine blk_drew ?_ | refine blk_alloc ?_ _)); refine blk_put (cs := #[.slice none 0 0, .slice none 0 0]) ?_ 0 _ rfl; (with_reducible repeat (first | refine blk_drewN ?_ _ | refine blk_drew ?_ | refine blk_alloc ?_ _)); exact BK1278.out⟩
       have n5_ : Aside0 (Below w.heap.size w ((w28.setCell ⟨gb1278, 0, none⟩ (.slice Ao29 t1271.length co29)).setCell ⟨gb1278, 1, none⟩ (.slice Ao33 t1274.length co33))) := ⟨bs3 HB GE1267 GE1268 GE1278⟩
       (try clear HO1273)
       (try clear HO1276)
       (try clear BK1267)
       (try clear BK1268)
       (try clear BK1278)
       (try clear HB)
       generalize ((w28.setCell ⟨gb1278, 0, none⟩ (.slice Ao29 t1271.length co29)).setCell ⟨gb1278, 1, none⟩ (.slice Ao33 t1274.length co33)) = w34 at n0_ n1_ n2_ n3_ n4_ n5_ ⊢
       have HO1273 := n0_
       have HO1276 := n1_
       have BK1267 := n2_
       have BK1268 := n3_
       have BK1278 := n4_
       have HB := n5_
       clear n0_ n1_ n2_ n3_ n4_ n5_
       have n0_ := Aside0.mk (Kd.R_drew HO1273.out)
       have n1_ := Aside0.mk (Kd.R_drew HO1276.out)
       have n2_ := Aside0.mk (blk_drew BK1267.out)
       have n3_ := Aside0.mk (blk_drew BK1268.out)
       have n4_ := Aside0.mk (blk_drew BK1278.out)
       have n5_ := Aside0.mk (below_drew1 HB.out)
       clear HO1273
       clear HO1276
       clear BK1267
       clear BK1268
       clear BK1278
       clear HB
       have HO1273 := n0_
       have HO1276 := n1_
       have BK1267 := n2_
       have BK1268 := n3_
       have BK1278 := n4_
       have HB := n5_
       clear n0_ n1_ n2_ n3_ n4_ n5_
       obtain ⟨i036, hi036, _, hsz36, _⟩ := info_parts info9
       obtain ⟨hcut36, hA36, hC36⟩ := print_take_of (P := Try.prog) Value.string (⟨#[]⟩ : ByteArray) 34 9 .i64 Try.underlying34 hi036 hsz36 A0_2 c0_2 l0_2 a2 (of_decide_eq_true (by first | (with_reducible assumption) | assumption)) (of_decide_eq_true (by first | (with_reducible assumption) | assumption)) HC0_2.out
       have HR1279 := Aside0.mk (Kd.C_of_reads (h1 := fun _ => rfl) (hA36 _ (Kd.reads_of_C HR0_2.out)))
       have HC1279 := Aside0.mk hC36
       clear hA36 hC36 hi036 hsz36
       refine start_ (n := 10) (S := fun w' => w'.cell? ⟨gb1278, 0, none⟩ = some (.slice Ao29 t1271.length co29) ∧ w'.cell? ⟨gb1278, 1, none⟩ = some (.slice Ao33 t1274.length co33) ∧ w'.cell? ⟨gb1267, 0, none⟩ = some (.slice A0_0 l0_0.length c0_0) ∧ w'.cell? ⟨gb1267, 1, none⟩ = some (.slice A0_1 l0_1.length c0_1) ∧ w'.cell? ⟨gb1267, 2, none⟩ = some (.slice A0_2 l0_2.length c0_2) ∧ w'.cell? ⟨gb1267, 3, none⟩ = some (.int .i64 a0_3)) (ds := []) #[false, false, false, false, false, false, false, false, false, false] (by kernel_rfl) rfl rfl ⟨(blk_cell BK1278.out 0).trans rfl, (blk_cell BK1278.out 1).trans rfl, (blk_cell BK1267.out 0).trans rfl, (blk_cell BK1267.out 1).trans rfl, (blk_cell BK1267.out 2).trans rfl, (blk_cell BK1267.out 3).trans rfl⟩ (fun hHeld => ?_); refine with_tabW impl_CrashStore.tab6 impl_CrashStore.bits6 (fun HT_ HW_ => ?_)
       generalize w34.drew = w35 at HO1273 HO1276 BK1267 BK1268 BK1278 HB HR1279 hHeld ⊢
       refine pure_ (i := 1) (N := some 35) (v := ?_) (a' := ?_) #[false, true, false, false, false, false, false, false, false, false] rfl rfl (any_of HT_.out (by kernel_rfl)) (fun _ _ _ h => h) (Or.inl ⟨by rfl, ?_⟩) ?_ ?_
       rotate_left
       ·
        intro w'
        go_simp
        with_reducible rfl
       rotate_left
       ·
        simp only [Act.put, List.setIfInBounds_toArray, List.set_cons_zero, List.set_cons_succ, i64_w, i32_w]
        rfl
       refine pure_ (i := 3) (N := some 37) (v := ?_) (a' := ?_) #[false, true, false, true, false, false, false, false, false, false] rfl rfl (any_of HT_.out (by kernel_rfl)) (fun _ _ _ h => h) (Or.inl ⟨by rfl, ?_⟩) ?_ ?_
       rotate_left
       ·
        intro w'
        go_simp
        with_reducible rfl
       rotate_left
       ·
        simp only [Act.put, List.setIfInBounds_toArray, List.set_cons_zero, List.set_cons_succ, i64_w, i32_w]
        rfl
       refine pure_ (i := 6) (N := some 40) (v := ?_) (a' := ?_) #[false, true, false, true, false, false, true, false, false, false] rfl rfl (any_of HT_.out (by kernel_rfl)) (fun _ _ _ h => h) (Or.inl ⟨by rfl, ?_⟩) ?_ ?_
       rotate_left
       ·
        intro w'
        go_simp
        with_reducible rfl
       rotate_left
       ·
        simp only [Act.put, List.setIfInBounds_toArray, List.set_cons_zero, List.set_cons_succ, i64_w, i32_w]
        rfl
       refine take_ (i := 0) (N := some 34) (v := ?_) (a' := ?_) #[true, true, false, true, false, false, true, false, false, false] rfl rfl (take_ofW HT_.out HW_.out (by kernel_rfl)) (fun _ _ _ h => h) (Or.inl ⟨by rfl, ?_⟩) hHeld ?_ ?_
       rotate_left
       ·
        rintro w' ⟨s0, s1, s2, s3, s4, s5⟩
        go_simp
        with_reducible rfl
       rotate_left
       ·
        simp only [Act.put, List.setIfInBounds_toArray, List.set_cons_zero, List.set_cons_succ, i64_w, i32_w]
        rfl
       refine take_ (i := 2) (N := some 36) (v := ?_) (a' := ?_) #[true, true, true, true, false, false, true, false, false, false] rfl rfl (take_ofW HT_.out HW_.out (by kernel_rfl)) (fun _ _ _ h => h) (Or.inl ⟨by rfl, ?_⟩) hHeld ?_ ?_
       rotate_left
       ·
        rintro w' ⟨s0, s1, s2, s3, s4, s5⟩
        go_simp
        with_reducible rfl
       rotate_left
       ·
        simp only [Act.put, List.setIfInBounds_toArray, List.set_cons_zero, List.set_cons_succ, i64_w, i32_w]
        rfl
       refine pure_ (i := 4) (N := some 38) (v := ?_) (a' := ?_) #[true, true, true, true, true, false, true, false, false, false] rfl rfl (any_of HT_.out (by kernel_rfl)) (fun _ _ _ h => h) (Or.inl ⟨by rfl, ?_⟩) ?_ ?_
       rotate_left
       ·
        intro w'
        go_simp
        with_reducible rfl
       rotate_left
       ·
        simp only [Act.put, List.setIfInBounds_toArray, List.set_cons_zero, List.set_cons_succ, i64_w, i32_w]
        rfl
       refine one_ (i := 5) (N := some 39) #[true, true, true, true, true, true, true, false, false, false] rfl rfl (one_of HT_.out (by kernel_rfl)) (by decide) (fun K hK => ?_)
       refine goes_ Try.func97 (by kernel_rfl) rfl #[.slice A0_2 (l0_2.take (a2 : Int).toNat).length c0_2] (by rfl) rfl rfl (by (try simp only [List.map_toArray, List.map_cons, List.map_nil]); first | done | (rw [show (l0_2.take (a2 : Int).toNat).length = a2.toNat from (by rw [List.length_take]; have h_ : (a2 : Int) ≤ (l0_2.length : Int) := of_decide_eq_true (by first | (with_reducible assumption) | assumption); omega)] <;> rfl) | rfl | (simp only [List.length_drop, List.length_take]; rfl)) ?_
       with_reducible refine (slices_Clone_string_string.calls _ _ (l0_2.take (a2 : Int).toNat) t1280 _ ?side1 ?side2 A24.out).mono ?_
       (case side1 => exact cb HR1279 HB)
       (case side2 => exact HC1279.out)
       rintro e w37 ⟨v1281, rfl, ho0, hb⟩
       refine ⟨_, rfl, ?_⟩
       have n0_ := Aside0.mk (Kd.R_elder' (rr HO1273.out) (Kd.R_base ho0) hb)
       have n1_ := Aside0.mk (Kd.R_below (rr HO1276.out) hb)
       have n2_ := Aside0.mk (Kd.R_lower (Kd.R_new' ho0 (Kd.R_lt (rr HO1273.out))) (below_size (bs3 HB GE1267 GE1268 GE1278)))
       have n3_ := Aside0.mk (bb BK1267 hb)
       have n4_ := Aside0.mk (bb BK1268 hb)
       have n5_ := Aside0.mk (bb BK1278 hb)
       have n6_ := Aside0.mk (below_step (bs3 HB GE1267 GE1268 GE1278) hb)
       clear HO1273
       clear HO1276
       clear BK1267
       clear BK1268
       clear BK1278
       clear HB
       have HO1273 := n0_
       have HO1276 := n1_
       have HO1282 := n2_
       have BK1267 := n3_
       have BK1268 := n4_
       have BK1278 := n5_
       have HB := n6_
       clear n0_ n1_ n2_ n3_ n4_ n5_ n6_
       (try clear hb)
       (try clear hb2)
       (try clear hk)
       (try clear hi)
       (try clear ho0)
       obtain ⟨Ao38, co38, eo38⟩ := Kd.R_slice HO1282.out
       (first | subst eo38 | (injection eo38 with f1_ f2_ f3_; have f4_ := f1_.symm; have f5_ := f3_.symm; clear f1_ f2_ f3_; subst f4_; subst f5_))
       refine hK.out _ _ ⟨(blk_cell BK1278.out 0).trans rfl, (blk_cell BK1278.out 1).trans rfl, (blk_cell BK1267.out 0).trans rfl, (blk_cell BK1267.out 1).trans rfl, (blk_cell BK1267.out 2).trans rfl, (blk_cell BK1267.out 3).trans rfl⟩ (fun hHeld => ?_)
       clear hK K
       refine norm_ (a' := ?_) ?_ ?_
       rotate_left
       ·
        show Act.put _ (some 39) _ = _
        simp only [Act.put, List.setIfInBounds_toArray, List.set_cons_zero, List.set_cons_succ, i64_w, i32_w]
        rfl
       refine pure_ (i := 7) (N := some 41) (v := ?_) (a' := ?_) #[true, true, true, true, true, true, true, true, false, false] rfl rfl (any_of HT_.out (by kernel_rfl)) (fun _ _ _ h => h) (Or.inl ⟨by rfl, ?_⟩) ?_ ?_
       rotate_left
       ·
        intro w'
        go_simp
        with_reducible rfl
       rotate_left
       ·
        simp only [Act.put, List.setIfInBounds_toArray, List.set_cons_zero, List.set_cons_succ, i64_w, i32_w]
        rfl
       refine one_ (i := 8) (N := none) #[true, true, true, true, true, true, true, true, true, false] rfl rfl (one_of HT_.out (by kernel_rfl)) (by decide) (fun K hK => ?_)
       have hs39 : w37.cell? ⟨gb1268, 0, none⟩ = some (.slice none 0 0) := (blk_cell BK1268.out 0).trans rfl
       have hfs39 := blk_frozen BK1268.out 0
       have hns39_0 := NB1267_1268.out
       have hns39_2 := NB1278_1268.out
       have hms39_0 := NB1268_1267.out
       have hms39_2 := NB1268_1278.out
       have hs40 : w37.cell? ⟨gb1268, 1, none⟩ = some (.slice none 0 0) := (blk_cell BK1268.out 1).trans rfl
       have hfs40 := blk_frozen BK1268.out 1
       have hns40_0 := NB1267_1268.out
       have hns40_2 := NB1278_1268.out
       have hms40_0 := NB1268_1267.out
       have hms40_2 := NB1268_1278.out
       have hs41 : w37.cell? ⟨gb1268, 2, none⟩ = some (.slice none 0 0) := (blk_cell BK1268.out 2).trans rfl
       have hfs41 := blk_frozen BK1268.out 2
       have hns41_0 := NB1267_1268.out
       have hns41_2 := NB1278_1268.out
       have hms41_0 := NB1268_1267.out
       have hms41_2 := NB1268_1278.out
       have hs42 : w37.cell? ⟨gb1268, 3, none⟩ = some (.int .i64 0) := (blk_cell BK1268.out 3).trans rfl
       have hfs42 := blk_frozen BK1268.out 3
       have hns42_0 := NB1267_1268.out
       have hns42_2 := NB1278_1268.out
       have hms42_0 := NB1268_1267.out
       have hms42_2 := NB1268_1278.out
       refine skip_ (w1 := ?_) (by rfl) rfl ?_ ?_
       rotate_left
       ·
        go_simp
        rfl
       refine hK.out _ _ ⟨((cell_far (p := ⟨gb1268, _, none⟩) NB1278_1268.out _).trans (((cell_far (p := ⟨gb1268, _, none⟩) NB1278_1268.out _).trans (((cell_far (p := ⟨gb1268, _, none⟩) NB1278_1268.out _).trans (((cell_far (p := ⟨gb1268, _, none⟩) NB1278_1268.out _).trans (hHeld.1)))))))), ((cell_far (p := ⟨gb1268, _, none⟩) NB1278_1268.out _).trans (((cell_far (p := ⟨gb1268, _, none⟩) NB1278_1268.out _).trans (((cell_far (p := ⟨gb1268, _, none⟩) NB1278_1268.out _).trans (((cell_far (p := ⟨gb1268, _, none⟩) NB1278_1268.out _).trans (hHeld.2.1)))))))), ((cell_far (p := ⟨gb1268, _, none⟩) NB1267_1268.out _).trans (((cell_far (p := ⟨gb1268, _, none⟩) NB1267_1268.out _).trans (((cell_far (p := ⟨gb1268, _, none⟩) NB1267_1268.out _).trans (((cell_far (p := ⟨gb1268, _, none⟩) NB1267_1268.out _).trans (hHeld.2.2.1)))))))), ((cell_far (p := ⟨gb1268, _, none⟩) NB1267_1268.out _).trans (((cell_far (p := ⟨gb1268, _, none⟩) NB1267_1268.out _).trans (((cell_far (p := ⟨gb1268, _, none⟩) NB1267_1268.out _).trans (((cell_far (p := ⟨gb1268, _, none⟩) NB1267_1268.out _).trans (hHeld.2.2.2.1)))))))), ((cell_far (p := ⟨gb1268, _, none⟩) NB1267_1268.out _).trans (((cell_far (p := ⟨gb1268, _, none⟩) NB1267_1268.out _).trans (((cell_far (p := ⟨gb1268, _, none⟩) NB1267_1268.out _).trans (((cell_far (p := ⟨gb1268, _, none⟩) NB1267_1268.out _).trans (hHeld.2.2.2.2.1)))))))), ((cell_far (p := ⟨gb1268, _, none⟩) NB1267_1268.out _).trans (((cell_far (p := ⟨gb1268, _, none⟩) NB1267_1268.out _).trans (((cell_far (p := ⟨gb1268, _, none⟩) NB1267_1268.out _).trans (((cell_far (p := ⟨gb1268, _, none⟩) NB1267_1268.out _).trans (hHeld.2.2.2.2.2))))))))⟩ (fun hHeld => ?_)
       clear hK K
       refine pure_ (i := 9) (N := some 7) (v := ?_) (a' := ?_) #[true, true, true, true, true, true, true, true, true, true] rfl rfl (any_of HT_.out (by kernel_rfl)) (fun _ _ _ h => h) (Or.inl ⟨by rfl, ?_⟩) ?_ ?_
       rotate_left
       ·
        intro w'
        go_simp
        with_reducible rfl
       rotate_left
       ·
        simp only [Act.put, List.setIfInBounds_toArray, List.set_cons_zero, List.set_cons_succ, i64_w, i32_w]
        rfl
       refine done_ (done_of HT_.out (by kernel_rfl)) ?_
       try go_wp2
       refine bodyPost_ret (results_ct rfl _ _ gb1268 44 #[.slice Ao29 t1271.length co29, .slice Ao33 t1274.length co33, .slice Ao38 t1280.length co38, .int .i64 a2] (0, 0) _ rfl (by (with_reducible repeat (first | refine blk_drewN ?_ _ | refine blk_drew ?_ | refine blk_alloc ?_ _)); refine blk_put (cs := #[.slice Ao29 t1271.length co29, .slice Ao33 t1274.length co33, .slice Ao38 t1280.length co38, .int .i64 0]) ?_ 3 _ rfl; (with_reducible repeat (first | refine blk_drewN ?_ _ | refine blk_drew ?_ | refine blk_alloc ?_ _)); refine blk_put (cs := #[.slice Ao29 t1271.length co29, .slice Ao33 t1274.length co33, .slice none 0 0, .int .i64 0]) ?_ 2 _ rfl; (with_reducible repeat (first | refine blk_drewN ?_ _ | refine blk_drew ?_ | refine blk_alloc ?_ _)); refine blk_put (cs := #[.slice Ao29 t1271.length co29, .slice none 0 0, .slice none 0 0, .int .i64 0]) ?_ 1 _ rfl; (with_reducible repeat (first | refine blk_drewN ?_ _ | refine blk_drew ?_ | refine blk_alloc ?_ _)); refine blk_put (cs := #[.slice none 0 0, .slice none 0 0, .slice none 0 0, .int .i64 0]) ?_ 0 _ rfl; (with_reducible repeat (first | refine blk_drewN ?_ _ | refine blk_drew ?_ | refine blk_alloc ?_ _)); exact BK1268.out) Try.underlying44 rfl (by kernel_rfl)) rfl ?_
       exact ⟨_, _, _, by first | rfl | (simp [errW_none, errW_some] <;> rfl) | (simp [*, errW_none, errW_some] <;> rfl), by (with_reducible repeat (first | apply Kd.R_alloc | apply Kd.R_drewN | apply Kd.R_drew)); exact Kd.R_mono (Kd.R_far (p := ⟨gb1268, 3, none⟩) (Kd.R_far (p := ⟨gb1268, 2, none⟩) (Kd.R_far (p := ⟨gb1268, 1, none⟩) (Kd.R_far (p := ⟨gb1268, 0, none⟩) (Kd.R_types HO1273.out BK1268.out (by decide)) (fun _ hk => hk.2) (.slice Ao29 t1271.length co29)) (fun _ hk => hk.2) (.slice Ao33 t1274.length co33)) (fun _ hk => hk.2) (.slice Ao38 t1280.length co38)) (fun _ hk => hk.2) (.int .i64 a2)) (fun _ hk => hk.1.2), by (with_reducible repeat (first | apply Kd.R_alloc | apply Kd.R_drewN | apply Kd.R_drew)); exact Kd.R_mono (Kd.R_far (p := ⟨gb1268, 3, none⟩) (Kd.R_far (p := ⟨gb1268, 2, none⟩) (Kd.R_far (p := ⟨gb1268, 1, none⟩) (Kd.R_far (p := ⟨gb1268, 0, none⟩) (Kd.R_types HO1276.out BK1268.out (by decide)) (fun _ hk => hk.2) (.slice Ao29 t1271.length co29)) (fun _ hk => hk.2) (.slice Ao33 t1274.length co33)) (fun _ hk => hk.2) (.slice Ao38 t1280.length co38)) (fun _ hk => hk.2) (.int .i64 a2)) (fun _ hk => trivial), by (with_reducible repeat (first | apply Kd.R_alloc | apply Kd.R_drewN | apply Kd.R_drew)); exact Kd.R_mono (Kd.R_far (p := ⟨gb1268, 3, none⟩) (Kd.R_far (p := ⟨gb1268, 2, none⟩) (Kd.R_far (p := ⟨gb1268, 1, none⟩) (Kd.R_far (p := ⟨gb1268, 0, none⟩) (Kd.R_types HO1282.out BK1268.out (by decide)) (fun _ hk => hk.2) (.slice Ao29 t1271.length co29)) (fun _ hk => hk.2) (.slice Ao33 t1274.length co33)) (fun _ hk => hk.2) (.slice Ao38 t1280.length co38)) (fun _ hk => hk.2) (.int .i64 a2)) (fun _ hk => hk.1.2), bs3 HB GE1267 GE1268 GE1278⟩
      ·
       rw [if_neg c23] at H
       exact absurd H (by simp)
     ·
      rw [if_neg c22] at H
      exact absurd H (by simp)
    ·
     replace c21 := Bool.eq_false_iff.mpr c21
     subst c21
     rw [if_neg (show ¬ (false = true) by decide)] at H
     simp only [Option.some.injEq, Prod.mk.injEq] at H
     obtain ⟨rfl, rfl, rfl, rfl, rfl⟩ := H
     have hnb43 := NB1267_1268.out
     have hnc43 := NB1268_1267.out
     obtain ⟨hcz44_0, hcz44_1, hcz44_2, hcz44_3⟩ := cz4 BK1267
     obtain ⟨hfz44_0, hfz44_1, hfz44_2, hfz44_3⟩ := fz4 BK1267
     go_wp2_with (first | ((with_reducible refine gate_callee (f := 99) rfl ?_); refine gL (some 28) rfl rfl Try.func99 (by kernel_rfl) rfl #[.agg #[.slice A0_0 l0_0.length c0_0, .slice A0_1 l0_1.length c0_1], .slice A1 l1.length c1] rfl ?_; (with_reducible refine (impl_CrashDevice.calls kj3 _ _ l0_0 _ _ l0_1 _ _ l1 t1271 t1274 false _ ?side1 ?side2 ?side3 ?side4 ?side5 ?side6 A20.out).mono ?_); (case side1 => exact cb HR0_0 HB); (case side2 => exact HC0_0.out); (case side3 => exact cb HR0_1 HB); (case side4 => exact HC0_1.out); (case side5 => exact cb HR1 HB); (case side6 => exact HC1.out); rintro e w45 ⟨v1272, v1275, rfl, ho0, ho1, hb⟩; refine ⟨_, rfl, ?_⟩; have HO1273 := Aside0.mk (Kd.R_lower ho0 (below_size (bs2 HB GE1267 GE1268))); have HO1276 := Aside0.mk (Kd.R_lower ho1 (below_size (bs2 HB GE1267 GE1268))); replace BK1267 := nb BK1267 hb; replace BK1268 := nb BK1268 hb; replace HB := Aside0.mk (below_step (bs2 HB GE1267 GE1268) hb); (try clear hb); (try clear hb2); (try clear hk); (try clear hi); (try clear ho0); (try clear ho1)) | ((with_reducible refine gate_dst (N := 8) rfl ?_); (try (refine gate_guard (by rfl) ?_; dsimp only)); refine box_event ?hg (N := 8) ?hd (cs := #[.slice none 0 0, .slice none 0 0]) (t := 42) ?hr ?_; (case hd => rfl); (case hg => rfl); (case hr => first | (go_simp; done) | (go_simp; rfl)); intro gb1278 hg w46 hbox hb; replace HO1273 := nr HO1273 hb; replace HO1276 := nr HO1276 hb; have BK1278 := Aside0.mk (hbox); have GW1278 := Aside0.mk ((by rw [hg]; exact (below_size (bs2 HB GE1267 GE1268)) : w.heap.size ≤ gb1278)); have GE1278 := Aside0.mk ((by rw [hg]; exact (below_size (bs2 HB GE1267 GE1268)) : w.heap.size ≤ gb1278)); replace HB := Aside0.mk (below_step (bs2 HB GE1267 GE1268) hb); have NB1267_1278 := Aside0.mk ((bn BK1267 hg : gb1267 ≠ gb1278)); have NB1278_1267 := Aside0.mk ((bm BK1267 hg : gb1278 ≠ gb1267)); replace BK1267 := nb BK1267 hb; have NB1268_1278 := Aside0.mk ((bn BK1268 hg : gb1268 ≠ gb1278)); have NB1278_1268 := Aside0.mk ((bm BK1268 hg : gb1278 ≠ gb1268)); replace BK1268 := nb BK1268 hb; clear hb hbox hg; obtain ⟨Ao47, co47, eo47⟩ := Kd.R_slice HO1273.out; subst eo47; have hnb48 := NB1278_1267.out; have hnc48 := NB1267_1278.out; have hnb49 := NB1278_1268.out; have hnc49 := NB1268_1278.out; obtain ⟨hcz50_0, hcz50_1⟩ := cz2 BK1278; obtain ⟨hfz50_0, hfz50_1⟩ := fz2 BK1278; obtain ⟨Ao51, co51, eo51⟩ := Kd.R_slice HO1276.out; subst eo51; obtain ⟨hcz52_0, hcz52_1, hcz52_2, hcz52_3⟩ := cz4 BK1268; obtain ⟨hfz52_0, hfz52_1, hfz52_2, hfz52_3⟩ := fz4 BK1268))
     refine bodyPost_ret (results_ct rfl _ _ gb1268 44 #[.slice none 0 0, .slice none 0 0, .slice none 0 0, .int .i64 0] (0, 0) _ rfl (by (with_reducible repeat (first | refine blk_drewN ?_ _ | refine blk_drew ?_ | refine blk_alloc ?_ _)); refine blk_put (cs := #[.slice none 0 0, .slice none 0 0, .slice none 0 0, .int .i64 0]) ?_ 3 _ rfl; (with_reducible repeat (first | refine blk_drewN ?_ _ | refine blk_drew ?_ | refine blk_alloc ?_ _)); refine blk_put (cs := #[.slice none 0 0, .slice none 0 0, .slice none 0 0, .int .i64 0]) ?_ 2 _ rfl; (with_reducible repeat (first | refine blk_drewN ?_ _ | refine blk_drew ?_ | refine blk_alloc ?_ _)); refine blk_put (cs := #[.slice none 0 0, .slice none 0 0, .slice none 0 0, .int .i64 0]) ?_ 1 _ rfl; (with_reducible repeat (first | refine blk_drewN ?_ _ | refine blk_drew ?_ | refine blk_alloc ?_ _)); refine blk_put (cs := #[.slice none 0 0, .slice none 0 0, .slice none 0 0, .int .i64 0]) ?_ 0 _ rfl; (with_reducible repeat (first | refine blk_drewN ?_ _ | refine blk_drew ?_ | refine blk_alloc ?_ _)); refine blk_far ?_ NB1268_1278.out _; (with_reducible repeat (first | refine blk_drewN ?_ _ | refine blk_drew ?_ | refine blk_alloc ?_ _)); refine blk_far ?_ NB1268_1278.out _; (with_reducible repeat (first | refine blk_drewN ?_ _ | refine blk_drew ?_ | refine blk_alloc ?_ _)); exact BK1268.out) Try.underlying44 rfl (by kernel_rfl)) rfl ?_
     exact ⟨_, _, _, by first | rfl | (simp [errW_none, errW_some] <;> rfl) | (simp [*, errW_none, errW_some] <;> rfl), by first | exact Kd.R_nil _ _ _ _ _ | exact Kd.N_nil _ _ _ _ _ | exact Kd.V_nil _ _ _ _ _ | exact Kd.Q_nil _ _ _ _ _ | exact Kd.S_nil _ _ _ _ _, by first | exact Kd.R_nil _ _ _ _ _ | exact Kd.N_nil _ _ _ _ _ | exact Kd.V_nil _ _ _ _ _ | exact Kd.Q_nil _ _ _ _ _ | exact Kd.S_nil _ _ _ _ _, by first | exact Kd.R_nil _ _ _ _ _ | exact Kd.N_nil _ _ _ _ _ | exact Kd.V_nil _ _ _ _ _ | exact Kd.Q_nil _ _ _ _ _ | exact Kd.S_nil _ _ _ _ _, bs3 HB GE1267 GE1268 GE1278⟩

/-! ### laws_eqBoolS: function 52 -/
def laws_eqBoolS.l0 : Nat → List Bool → List Bool → Int → Option (Bool)
 | 0, _, _, _ => none
 | k + 1, x0, x1, x5 => if x5 < (x0.length : Int) then (if 0 ≤ x5 then (if x5 < (x1.length : Int) then (if ((rdOf false x0 x5) != (rdOf false x1 x5)) = true then (some false) else (laws_eqBoolS.l0 k x0 x1 (wrap64 (x5 + 1)))) else (none)) else (none)) else (some true)
def laws_eqBoolS.f (k : Nat) (l0 : List Bool) (l1 : List Bool) : Option (Bool) := if (l0.length : Int) = (l1.length : Int) then (laws_eqBoolS.l0 k l0 l1 0) else (some false)
theorem laws_eqBoolS.mono_l : ∀ k, (∀ y0 y1 y2, LeO (laws_eqBoolS.l0 k y0 y1 y2) (laws_eqBoolS.l0 (k + 1) y0 y1 y2))
 | 0 => fun _ _ _ r h => by simp [laws_eqBoolS.l0] at h
 | k + 1 => by
  have ih0 := laws_eqBoolS.mono_l k
  ·
   intro y0 y1 y2
   unfold laws_eqBoolS.l0
   repeat' first
   | (with_reducible exact ih0 _ _ _)
   | (with_reducible exact LeO.refl _)
   | (with_reducible exact LeO.none _)
   | (with_reducible refine LeO.ite ?_ ?_)
   | (with_reducible refine LeO.bind ?_ (fun _ => ?_))
   | exact ih0 _ _ _
   | exact LeO.none _
   | refine LeO.ite ?_ ?_
   | refine LeO.bind ?_ (fun _ => ?_)
theorem laws_eqBoolS.mono : ∀ a0 a1 k, LeO (laws_eqBoolS.f k a0 a1) (laws_eqBoolS.f (k + 1) a0 a1) := by
 intro a0 a1 k
 have ih0 := laws_eqBoolS.mono_l k
 unfold laws_eqBoolS.f
 repeat' first
   | (with_reducible exact ih0 _ _ _)
   | (with_reducible exact LeO.refl _)
   | (with_reducible exact LeO.none _)
   | (with_reducible refine LeO.ite ?_ ?_)
   | (with_reducible refine LeO.bind ?_ (fun _ => ?_))
   | exact ih0 _ _ _
   | exact LeO.none _
   | refine LeO.ite ?_ ?_
   | refine LeO.bind ?_ (fun _ => ?_)
set_option maxHeartbeats 8000000 in
set_option maxRecDepth 100000 in
theorem laws_eqBoolS.calls (k : Nat) (A0 : Option Addr) (c0 : Nat) (l0 : List Bool) (A1 : Option Addr) (c1 : Nat) (l1 : List Bool) (r : Bool) (w : World) (hr0 : Kd.C Kd.bool w A0 l0.length l0) (hc0 : l0.length ≤ c0) (hr1 : Kd.C Kd.bool w A1 l1.length l1) (hc1 : l1.length ≤ c1) (h : laws_eqBoolS.f k l0 l1 = some r) :
  Calls Try.prog 52 #[.slice A0 l0.length c0, .slice A1 l1.length c1] w fun e w' => e = .returned (.bool r) ∧ Drawn0 w w' := by
 have HR0 := Aside0.mk hr0
 have HC0 := Aside0.mk hc0
 clear hr0 hc0
 have HR1 := Aside0.mk hr1
 have HC1 := Aside0.mk hc1
 clear hr1 hc1
 have H : (if (l0.length : Int) = (l1.length : Int) then (laws_eqBoolS.l0 k l0 l1 0) else (some false)) = some r := h
 clear h
 by_cases c3 : (l0.length : Int) = (l1.length : Int)
 ·
  rw [if_pos c3] at H
  have c3b0 : ((l0.length : Int) == (l1.length : Int)) = true := beq_iff_eq.mpr c3
  have c3b1 : ((l0.length : Int) != (l1.length : Int)) = false := bne_eq_false_iff_eq.mpr c3
  have c3b2 : (l0.length == l1.length) = true := by first | simpa using c3 | (simp at c3 ⊢; omega)
  clear c3
  have H' := Aside0.mk H
  clear H
  go_enter Try.func52, Try.ntmps52
  go_wp2
  repeat (go_quiet (fail); try go_wp2)
  go_loopg [5] k (fun kq v5 w' => ∃ (x5_1 : Int), v5 = .int .i64 x5_1 ∧ Aside0 (laws_eqBoolS.l0 kq l0 l1 x5_1 = some r) ∧ Aside0 (kq ≤ k) ∧ Drawn0 w w')
  case atStart => exact ⟨(0), (by first | rfl | (simp; done) | (simp [*]; done)), H', ⟨Nat.le_refl _⟩, by repeat (first | exact Drawn0.refl _ | apply Drawn0.step)⟩
  case round =>
   clear H'
   try clear c1
   try clear p2
   try clear c3
   try clear c3b0
   try clear c3b1
   try clear c3b2
   obtain ⟨x5_1, rfl, HA, HK1, ⟨m1, rfl⟩⟩ := hrel
   cases gk with
   | zero => exact absurd HA.out (by simp [laws_eqBoolS.l0])
   | succ k1 =>
    have H := HA.out
    clear HA
    simp only [laws_eqBoolS.l0] at H
    by_cases c4 : x5_1 < (l0.length : Int)
    ·
     rw [if_pos c4] at H
     have c4b0 : decide (x5_1 < (l0.length : Int)) = true := decide_eq_true c4
     clear c4
     by_cases c5 : 0 ≤ x5_1
     ·
      rw [if_pos c5] at H
      have c5b0 : decide (0 ≤ x5_1) = true := decide_eq_true c5
      clear c5
      by_cases c6 : x5_1 < (l1.length : Int)
      ·
       rw [if_pos c6] at H
       have c6b0 : decide (x5_1 < (l1.length : Int)) = true := decide_eq_true c6
       clear c6
       by_cases c7 : ((rdOf false l0 x5_1) != (rdOf false l1 x5_1)) = true
       ·
        rw [if_pos c7] at H
        have c7b0 : ((rdOf false l0 x5_1) != (rdOf false l1 x5_1)) = true := c7
        (try (have c7b1 : decide ((rdOf false l0 x5_1) = (rdOf false l1 x5_1)) = false := by simpa using c7))
        (try (have c7b2 : ((rdOf false l0 x5_1) == (rdOf false l1 x5_1)) = false := by simpa using c7))
        (try (have c7b3 : ¬ ((rdOf false l0 x5_1) = (rdOf false l1 x5_1)) := by simpa using c7))
        clear c7
        obtain rfl := Option.some.inj H
        have p1283 : 0 ≤ (x5_1 : Int) := of_decide_eq_true (by first | (with_reducible assumption) | assumption)
        have q1283 : x5_1 < (l0.length : Int) := of_decide_eq_true (by first | (with_reducible assumption) | assumption)
        obtain ⟨ad1283, e1283, hx1283_0⟩ := Kd.at_bool HR0.out x5_1 p1283 q1283
        cases e1283
        replace p1283 := eq_true p1283
        replace q1283 := eq_true q1283
        have p1284 : 0 ≤ (x5_1 : Int) := of_decide_eq_true (by first | (with_reducible assumption) | assumption)
        have q1284 : x5_1 < (l1.length : Int) := of_decide_eq_true (by first | (with_reducible assumption) | assumption)
        obtain ⟨ad1284, e1284, hx1284_0⟩ := Kd.at_bool HR1.out x5_1 p1284 q1284
        cases e1284
        replace p1284 := eq_true p1284
        replace q1284 := eq_true q1284
        go_wp2
        repeat (go_quiet (fail); try go_wp2)
        go_ret
        exact ⟨by first | rfl | (simp; done) | (simp [*]; done), by repeat (first | exact Drawn0.refl _ | apply Drawn0.step)⟩
       ·
        rw [if_neg c7] at H
        have c7b0 : ((rdOf false l0 x5_1) != (rdOf false l1 x5_1)) = false := by simpa using c7
        (try (have c7b1 : decide ((rdOf false l0 x5_1) = (rdOf false l1 x5_1)) = true := by simpa using c7))
        (try (have c7b2 : ((rdOf false l0 x5_1) == (rdOf false l1 x5_1)) = true := by simpa using c7))
        clear c7
        have H' := Aside0.mk H
        clear H
        have p1283 : 0 ≤ (x5_1 : Int) := of_decide_eq_true (by first | (with_reducible assumption) | assumption)
        have q1283 : x5_1 < (l0.length : Int) := of_decide_eq_true (by first | (with_reducible assumption) | assumption)
        obtain ⟨ad1283, e1283, hx1283_0⟩ := Kd.at_bool HR0.out x5_1 p1283 q1283
        cases e1283
        replace p1283 := eq_true p1283
        replace q1283 := eq_true q1283
        have p1284 : 0 ≤ (x5_1 : Int) := of_decide_eq_true (by first | (with_reducible assumption) | assumption)
        have q1284 : x5_1 < (l1.length : Int) := of_decide_eq_true (by first | (with_reducible assumption) | assumption)
        obtain ⟨ad1284, e1284, hx1284_0⟩ := Kd.at_bool HR1.out x5_1 p1284 q1284
        cases e1284
        replace p1284 := eq_true p1284
        replace q1284 := eq_true q1284
        go_wp2
        repeat (go_quiet (fail); try go_wp2)
        go_roundg k1
        case measure => have := HK1.out; omega
        case rel => exact ⟨(wrap64 (x5_1 + 1)), (by first | rfl | (simp; done) | (simp [*]; done)), H', ⟨by have := HK1.out; omega⟩, by repeat (first | exact Drawn0.refl _ | apply Drawn0.step)⟩
      ·
       rw [if_neg c6] at H
       exact absurd H (by simp)
     ·
      rw [if_neg c5] at H
      exact absurd H (by simp)
    ·
     rw [if_neg c4] at H
     have c4b0 : decide (x5_1 < (l0.length : Int)) = false := decide_eq_false c4
     clear c4
     obtain rfl := Option.some.inj H
     go_wp2
     repeat (go_quiet (fail); try go_wp2)
     go_ret
     exact ⟨by first | rfl | (simp; done) | (simp [*]; done), by repeat (first | exact Drawn0.refl _ | apply Drawn0.step)⟩
 ·
  rw [if_neg c3] at H
  have c3b0 : ((l0.length : Int) == (l1.length : Int)) = false := beq_eq_false_iff_ne.mpr c3
  have c3b1 : ((l0.length : Int) != (l1.length : Int)) = true := bne_iff_ne.mpr c3
  have c3b2 : (l0.length == l1.length) = false := by first | simpa using c3 | (simp at c3 ⊢; omega)
  obtain rfl := Option.some.inj H
  go_enter Try.func52, Try.ntmps52
  go_wp2
  repeat (go_quiet (fail); try go_wp2)
  go_ret
  exact ⟨by first | rfl | (simp; done) | (simp [*]; done), by repeat (first | exact Drawn0.refl _ | apply Drawn0.step)⟩

/-! ### laws_markBoolS: function 53 -/
def laws_markBoolS.l0 : Nat → List Bool → Int → Int → Option (Int × List Bool)
 | 0, _, _, _ => none
 | k + 1, x0, x1, x5 => if x5 < (x0.length : Int) then (if 0 ≤ x5 then (laws_markBoolS.l0 k (x0.set (x5 : Int).toNat ((Int.tmod x1 3) == 0)) (wrap64 (x1 + 1)) (wrap64 (x5 + 1))) else (none)) else (some (x1, x0))
def laws_markBoolS.f (k : Nat) (l0 : List Bool) (a1 : Int) : Option (Int × List Bool) := laws_markBoolS.l0 k l0 a1 0
theorem laws_markBoolS.mono_l : ∀ k, (∀ y0 y1 y2, LeO (laws_markBoolS.l0 k y0 y1 y2) (laws_markBoolS.l0 (k + 1) y0 y1 y2))
 | 0 => fun _ _ _ r h => by simp [laws_markBoolS.l0] at h
 | k + 1 => by
  have ih0 := laws_markBoolS.mono_l k
  ·
   intro y0 y1 y2
   unfold laws_markBoolS.l0
   repeat' first
   | (with_reducible exact ih0 _ _ _)
   | (with_reducible exact LeO.refl _)
   | (with_reducible exact LeO.none _)
   | (with_reducible refine LeO.ite ?_ ?_)
   | (with_reducible refine LeO.bind ?_ (fun _ => ?_))
   | exact ih0 _ _ _
   | exact LeO.none _
   | refine LeO.ite ?_ ?_
   | refine LeO.bind ?_ (fun _ => ?_)
theorem laws_markBoolS.mono : ∀ a0 a1 k, LeO (laws_markBoolS.f k a0 a1) (laws_markBoolS.f (k + 1) a0 a1) := by
 intro a0 a1 k
 have ih0 := laws_markBoolS.mono_l k
 unfold laws_markBoolS.f
 repeat' first
   | (with_reducible exact ih0 _ _ _)
   | (with_reducible exact LeO.refl _)
   | (with_reducible exact LeO.none _)
   | (with_reducible refine LeO.ite ?_ ?_)
   | (with_reducible refine LeO.bind ?_ (fun _ => ?_))
   | exact ih0 _ _ _
   | exact LeO.none _
   | refine LeO.ite ?_ ?_
   | refine LeO.bind ?_ (fun _ => ?_)
set_option maxHeartbeats 8000000 in
set_option maxRecDepth 100000 in
theorem laws_markBoolS.calls (k : Nat) (P0_ : Nat → Prop) (u9000_ : Value) (l0 : List Bool) (a1 : Int) (r1 : Int) (r2 : List Bool) (w0 w : World) (hB : Below w0.heap.size w0 w) (ho0 : Kd.R Kd.bool 4 w w0.heap.size P0_ u9000_ l0) (h : laws_markBoolS.f k l0 a1 = some (r1, r2)) :
  Calls Try.prog 53 #[u9000_, .int .i64 a1] w fun e w' => e = .returned (.int .i64 r1) ∧ Kd.R Kd.bool 4 w' w0.heap.size (fun k_ => (P0_ k_ ∨ w.heap.size ≤ k_)) u9000_ r2 ∧ Below w0.heap.size w0 w' ∧ Kept w w' (fun k_ => P0_ k_) := by
 have HO0 := Aside0.mk (show Kd.R Kd.bool 4 w w0.heap.size (fun k_ => (P0_ k_ ∨ w.heap.size ≤ k_)) u9000_ l0 from Kd.R_mono ho0 (fun k_ hk => (.inl hk)))
 have HK := Aside0.mk (Kept.refl w (fun k_ => P0_ k_))
 have HW0 := Aside0.mk hB.size
 have HB := Aside0.mk hB
 clear hB
 have H : (laws_markBoolS.l0 k l0 a1 0) = some (r1, r2) := h
 clear h
 have H' := Aside0.mk H
 clear H
 go_enter Try.func53, Try.ntmps53
 go_wp2
 go_loopg [1, 5] k (fun kq v1 v5 w' => ∃ (x0_1 : List Bool) (x1_1 : Int) (x5_1 : Int), v1 = .int .i64 x1_1 ∧ v5 = .int .i64 x5_1 ∧ Aside0 (laws_markBoolS.l0 kq x0_1 x1_1 x5_1 = some (r1, r2)) ∧ Aside0 (kq ≤ k) ∧ Aside0 (Kd.R Kd.bool 4 w' w0.heap.size (fun k_ => (P0_ k_ ∨ w.heap.size ≤ k_)) u9000_ x0_1) ∧ Aside0 (Kept w w' (fun k_ => P0_ k_)) ∧ Aside0 (Below w0.heap.size w0 w'))
 case atStart => exact ⟨(l0), (a1), (0), (by first | rfl | (simp; done) | (simp [*]; done)), (by first | rfl | (simp; done) | (simp [*]; done)), H', ⟨Nat.le_refl _⟩, ⟨rr HO0.out⟩, ⟨by repeat (first | (with_reducible first | exact HK.out | apply Kept.alloc | apply Kept.drewN | apply Kept.drew) | exact HK.out)⟩, ⟨bs HB⟩⟩
 case round =>
  clear H'
  try clear p2
  obtain ⟨x0_1, x1_1, x5_1, rfl, rfl, HA, HK1, HO_0, HK, HB⟩ := hrel
  cases gk with
  | zero => exact absurd HA.out (by simp [laws_markBoolS.l0])
  | succ k1 =>
   have H := HA.out
   clear HA
   simp only [laws_markBoolS.l0] at H
   by_cases c3 : x5_1 < (x0_1.length : Int)
   ·
    rw [if_pos c3] at H
    have c3b0 : decide (x5_1 < (x0_1.length : Int)) = true := decide_eq_true c3
    clear c3
    by_cases c4 : 0 ≤ x5_1
    ·
     rw [if_pos c4] at H
     have c4b0 : decide (0 ≤ x5_1) = true := decide_eq_true c4
     clear c4
     obtain ⟨y1285, hy1285⟩ : ∃ y_ : List Bool, y_ = (x0_1.set (x5_1 : Int).toNat ((Int.tmod x1_1 3) == 0)) := ⟨_, rfl⟩
     replace H : (laws_markBoolS.l0 k1 y1285 (wrap64 (x1_1 + 1)) (wrap64 (x5_1 + 1))) = some (r1, r2) := by first | (rw [hy1285]; with_reducible exact H) | (have H2_ := (Option.bind_some _ _).symm.trans H; rw [hy1285]; with_reducible exact H2_) | (have H2_ := (Option.bind_some _ _).symm.trans H; with_reducible exact H2_) | with_reducible exact H | (rw [hy1285]; exact H) | exact H
     have Ny1285 := Aside0.mk hy1285
     clear hy1285
     have H' := Aside0.mk H
     clear H
     obtain ⟨Ao6, co6, eo6⟩ := Kd.R_slice HO_0.out
     subst eo6
     have p5 : 0 ≤ (x5_1 : Int) := of_decide_eq_true (by first | (with_reducible assumption) | assumption)
     have q5 : (x5_1 : Int) < ((x0_1.length : Int) : Int) := of_decide_eq_true (by first | (with_reducible assumption) | assumption)
     obtain ⟨go5, co5, eo5, gb5, gl5, cl5, HG5⟩ := Kd.R_form HO_0.out (by omega)
     (first | cases eo5 | (injection eo5 with ea_ en_ ec_; (first | subst ea_ | (injection ea_ with ea_; subst ea_)); subst ec_; clear en_))
     have GB5 := Aside0.mk gb5
     have GG5 := Aside0.mk HG5
     clear gb5 gl5 HG5
     have HMgo5 := Aside0.mk (show (P0_ go5 ∨ w.heap.size ≤ go5) from (HO_0.out.1 _ rfl))
     obtain ⟨hx5_0, hf5_0⟩ := Kd.R_celln false HO_0.out (x5_1 : Int) p5 q5
     replace p5 := eq_true p5
     replace q5 := eq_true q5
     have HP7 := Kd.R_putg HO_0.out (x5_1 : Int) ((Int.tmod x1_1 3) == 0)
     go_wp2_with (first | ((with_reducible refine gate_store (t := 4) (p := 17) rfl ?_); refine store_event (t := 4) (p := 17) (v := ?vo_w8) (w1 := (wr.setCell ⟨go5, (x5_1 : Int).toNat, none⟩ (.bool ((Int.tmod x1_1 3) == 0)))) ?hg ?ho ?hn ?hr ?_; (case ho => rfl); (case hg => rfl); (case hn => rfl); (case hr => first | (go_simp; done) | (go_simp; rfl)); intro w8 hw; have hg : wr.grownBy w8 (some go5) := (by rw [hw]; exact HP7.2); have hp_ : Kd.R Kd.bool 4 w8 w0.heap.size (fun k_ => (P0_ k_ ∨ w.heap.size ≤ k_)) (.slice (some ⟨go5, 0, none⟩) x0_1.length co6) y1285 := (by rw [hw, Ny1285.out]; exact HP7.1); clear HP7; replace HB := Aside0.mk ((by rw [hw]; exact below_set (HB.out) GB5.out : Below w0.heap.size w0 w8)); replace HK := Aside0.mk (Kept.of_grown (S := (fun k_ => P0_ k_)) hg (by repeat (first | (with_reducible first | exact HK.out | apply Kept.alloc | apply Kept.drewN | apply Kept.drew) | exact HK.out)) (fun k_ e_ => (HO_0.out.1 k_ e_))); replace HO_0 := Aside0.mk (hp_); clear hg hw hp_))
     go_roundg k1
     case measure => have := HK1.out; omega
     case rel => exact ⟨(y1285), (wrap64 (x1_1 + 1)), (wrap64 (x5_1 + 1)), (by first | rfl | (simp; done) | (simp [*]; done)), (by first | rfl | (simp; done) | (simp [*]; done)), H', ⟨by have := HK1.out; omega⟩, ⟨rr HO_0.out⟩, ⟨by repeat (first | (with_reducible first | exact HK.out | apply Kept.alloc | apply Kept.drewN | apply Kept.drew) | exact HK.out)⟩, ⟨bs HB⟩⟩
    ·
     rw [if_neg c4] at H
     exact absurd H (by simp)
   ·
    rw [if_neg c3] at H
    have c3b0 : decide (x5_1 < (x0_1.length : Int)) = false := decide_eq_false c3
    clear c3
    simp only [Option.some.injEq, Prod.mk.injEq] at H
    obtain ⟨rfl, rfl⟩ := H
    obtain ⟨Ao9, co9, eo9⟩ := Kd.R_slice HO_0.out
    subst eo9
    go_wp2
    go_ret
    exact ⟨by first | rfl | (simp [errW_none, errW_some] <;> rfl) | (simp [*, errW_none, errW_some] <;> rfl), by (with_reducible repeat (first | apply Kd.R_alloc | apply Kd.R_drewN | apply Kd.R_drew)); exact HO_0.out, bs HB, by repeat (first | (with_reducible first | exact HK.out | apply Kept.alloc | apply Kept.drewN | apply Kept.drew) | exact HK.out)⟩

end Go.Proofs.Ytcdkgenfggdpaaa.G
