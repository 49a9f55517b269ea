-- Printed by a program of this session (drive.py, by way of the kit's print). Not trusted: Lean checks it.
import Derived.Test.YtakgjdckolllaaaG0
import Derived.Test.YtakgjdckolllaaaG2
import Derived.Test.YtakgjdckolllaaaG3
import Derived.Test.YtakgjdckolllaaaG5
namespace Go.Proofs.Ytakgjdckolllaaa.G
open Go.RowKit Go.Proofs.YtakgjdckolllaaaW.PrintWords Go.Proofs.YtakgjdckolllaaaW.PrintLast Go.Proofs.YtakgjdckolllaaaW.PrintMore
attribute [local go_sem] max2_int min2_int max_two min_two max_three min_three max_four min_four   -- for this text's walks alone
set_option linter.unusedVariables false
set_option linter.unusedSimpArgs false

/-! ### spec_PromisedIn: function 23 -/
def spec_PromisedIn.l0 : Nat → Int → List (S71) → Int → Int → Option (Int × Bool)
 | 0, _, _, _, _ => none
 | k + 1, x4, x12, x13, x14 => if x14 < x13 then (if 0 ≤ x14 then (if x14 < (x12.length : Int) then (spec_PromisedIn.l0 k (wrap64 (x4 + (wrap64 (((rd_T71 x12 x14).f2.f1) - ((rd_T71 x12 x14).f3))))) x12 x13 (wrap64 (x14 + 1))) else (none)) else (none)) else (some (x4, true))
def spec_PromisedIn.f (k : Nat) (a0_0 : Int) (l0_1 : List (S53)) (l0_2 : List (S53)) (a0_3 : Int) (l0_4 : List (S71)) : Option (Int × Bool) := (spec_GoodWork.f k a0_0 l0_1 l0_2 a0_3 l0_4).bind fun t490 => (if t490 = true then ((spec_l12Open.f k l0_4).bind fun t491 => (spec_PromisedIn.l0 k 0 t491 (t491.length : Int) 0)) else (some (0, false)))
theorem spec_PromisedIn.mono_l : ∀ k, (∀ y0 y1 y2 y3, LeO (spec_PromisedIn.l0 k y0 y1 y2 y3) (spec_PromisedIn.l0 (k + 1) y0 y1 y2 y3))
 | 0 => fun _ _ _ _ r h => by simp [spec_PromisedIn.l0] at h
 | k + 1 => by
  have ih0 := spec_PromisedIn.mono_l k
  ·
   intro y0 y1 y2 y3
   unfold spec_PromisedIn.l0
   repeat' first
   | (with_reducible exact ih0 _ _ _ _)
   | (with_reducible exact spec_GoodWork.mono _ _ _ _ _ _)
   | (with_reducible exact spec_l12Open.mono _ _)
   | (with_reducible exact LeO.refl _)
   | (with_reducible exact LeO.none _)
   | (with_reducible refine LeO.ite ?_ ?_)
   | (with_reducible refine LeO.bind ?_ (fun _ => ?_))
   | exact ih0 _ _ _ _
   | exact spec_GoodWork.mono _ _ _ _ _ _
   | exact spec_l12Open.mono _ _
   | exact LeO.none _
   | refine LeO.ite ?_ ?_
   | refine LeO.bind ?_ (fun _ => ?_)
theorem spec_PromisedIn.mono : ∀ a0 a1 a2 a3 a4 k, LeO (spec_PromisedIn.f k a0 a1 a2 a3 a4) (spec_PromisedIn.f (k + 1) a0 a1 a2 a3 a4) := by
 intro a0 a1 a2 a3 a4 k
 have ih0 := spec_PromisedIn.mono_l k
 unfold spec_PromisedIn.f
 repeat' first
   | (with_reducible exact ih0 _ _ _ _)
   | (with_reducible exact spec_GoodWork.mono _ _ _ _ _ _)
   | (with_reducible exact spec_l12Open.mono _ _)
   | (with_reducible exact LeO.refl _)
   | (with_reducible exact LeO.none _)
   | (with_reducible refine LeO.ite ?_ ?_)
   | (with_reducible refine LeO.bind ?_ (fun _ => ?_))
   | exact ih0 _ _ _ _
   | exact spec_GoodWork.mono _ _ _ _ _ _
   | exact spec_l12Open.mono _ _
   | exact LeO.none _
   | refine LeO.ite ?_ ?_
   | refine LeO.bind ?_ (fun _ => ?_)
set_option maxHeartbeats 8000000 in
set_option maxRecDepth 100000 in
theorem spec_PromisedIn.calls (k : Nat) (a0_0 : Int) (A0_1 : Option Addr) (c0_1 : Nat) (l0_1 : List (S53)) (A0_2 : Option Addr) (c0_2 : Nat) (l0_2 : List (S53)) (a0_3 : Int) (A0_4 : Option Addr) (c0_4 : Nat) (l0_4 : List (S71)) (r1 : Int) (r2 : Bool) (w : World) (hr0_1 : Kd.C k53 w A0_1 l0_1.length l0_1) (hc0_1 : l0_1.length ≤ c0_1) (hr0_2 : Kd.C k53 w A0_2 l0_2.length l0_2) (hc0_2 : l0_2.length ≤ c0_2) (hr0_4 : Kd.C k71 w A0_4 l0_4.length l0_4) (hc0_4 : l0_4.length ≤ c0_4) (h : spec_PromisedIn.f k a0_0 l0_1 l0_2 a0_3 l0_4 = some (r1, r2)) :
  Calls Try.prog 23 #[.agg #[.int .i64 a0_0, .slice A0_1 l0_1.length c0_1, .slice A0_2 l0_2.length c0_2, .int .i64 a0_3, .slice A0_4 l0_4.length c0_4]] w fun e w' => e = .returned (.tuple #[.int .i64 r1, .bool r2]) ∧ Below w.heap.size w w' := by
 have hu27 := Try.underlying27
 have hu71 := Try.underlying71
 have HR0_1 := Aside0.mk hr0_1
 have HC0_1 := Aside0.mk hc0_1
 clear hr0_1 hc0_1
 have HR0_2 := Aside0.mk hr0_2
 have HC0_2 := Aside0.mk hc0_2
 clear hr0_2 hc0_2
 have HR0_4 := Aside0.mk hr0_4
 have HC0_4 := Aside0.mk hc0_4
 clear hr0_4 hc0_4
 have HB := Aside0.mk (Below.refl w.heap.size w)
 have H : ((spec_GoodWork.f k a0_0 l0_1 l0_2 a0_3 l0_4).bind fun t490 => (if t490 = true then ((spec_l12Open.f k l0_4).bind fun t491 => (spec_PromisedIn.l0 k 0 t491 (t491.length : Int) 0)) else (some (0, false)))) = some (r1, r2) := h
 clear h
 replace H := Option.bind_eq_some_iff.mp H
 obtain ⟨t490, A20, H⟩ := H
 replace H : (if t490 = true then ((spec_l12Open.f k l0_4).bind fun t491 => (spec_PromisedIn.l0 k 0 t491 (t491.length : Int) 0)) else (some (0, false))) = some (r1, r2) := H
 have A2 := Aside0.mk A20
 clear A20
 by_cases c3 : t490 = true
 ·
  subst c3
  rw [if_pos rfl] at H
  replace H := Option.bind_eq_some_iff.mp H
  obtain ⟨t491, A40, H⟩ := H
  replace H : (spec_PromisedIn.l0 k 0 t491 (t491.length : Int) 0) = some (r1, r2) := H
  have A4 := Aside0.mk A40
  clear A40
  have H' := Aside0.mk H
  clear H
  go_enter Try.func23, Try.ntmps23
  go_wp2_with (first | ((with_reducible refine gate_dst (N := 1) rfl ?_); refine box_event ?hg (N := 1) ?hd (cs := #[.int .i64 a0_0, .slice A0_1 l0_1.length c0_1, .slice A0_2 l0_2.length c0_2, .int .i64 a0_3, .slice A0_4 l0_4.length c0_4]) (t := 27) ?hr ?_; (case hd => rfl); (case hg => rfl); (case hr => first | (go_simp; done) | (go_simp; rfl)); intro gb489 hg w5 hbox hb; have BK489 := Aside0.mk (hbox); have GW489 := Aside0.mk ((by rw [hg]; exact (below_size (bs HB)) : w.heap.size ≤ gb489)); have GE489 := Aside0.mk ((by rw [hg]; exact (below_size (bs HB)) : w.heap.size ≤ gb489)); replace HB := Aside0.mk (below_step (bs HB) hb); clear hb hbox hg; obtain ⟨hcz6_0, hcz6_1, hcz6_2, hcz6_3, hcz6_4⟩ := cz5 BK489; obtain ⟨hfz6_0, hfz6_1, hfz6_2, hfz6_3, hfz6_4⟩ := fz5 BK489) | ((with_reducible refine gate_callee (f := 15) rfl ?_); refine gL (some 8) rfl rfl Try.func15 (by kernel_rfl) rfl #[.agg #[.int .i64 a0_0, .slice A0_1 l0_1.length c0_1, .slice A0_2 l0_2.length c0_2, .int .i64 a0_3, .slice A0_4 l0_4.length c0_4]] rfl ?_; (with_reducible refine (spec_GoodWork.calls k a0_0 _ _ l0_1 _ _ l0_2 a0_3 _ _ l0_4 true _ ?side1 ?side2 ?side3 ?side4 ?side5 ?side6 A2.out).mono ?_); (case side1 => exact cb HR0_1 HB); (case side2 => exact HC0_1.out); (case side3 => exact cb HR0_2 HB); (case side4 => exact HC0_2.out); (case side5 => exact cb HR0_4 HB); (case side6 => exact HC0_4.out); rintro e w7 ⟨rfl, hb⟩; refine ⟨_, rfl, ?_⟩; replace BK489 := nb BK489 hb; replace HB := Aside0.mk (below_step (bs1 HB GE489) hb); (try clear hb); (try clear hb2); (try clear hk); (try clear hi); obtain ⟨hcz8_0, hcz8_1, hcz8_2, hcz8_3, hcz8_4⟩ := cz5 BK489; obtain ⟨hfz8_0, hfz8_1, hfz8_2, hfz8_3, hfz8_4⟩ := fz5 BK489) | ((with_reducible refine gate_callee (f := 44) rfl ?_); refine gL (some 12) rfl rfl Try.func44 (by kernel_rfl) rfl #[.slice A0_4 l0_4.length c0_4] rfl ?_; (with_reducible refine (spec_l12Open.calls k _ _ l0_4 t491 _ ?side1 ?side2 A4.out).mono ?_); (case side1 => exact cb HR0_4 HB); (case side2 => exact HC0_4.out); rintro e w9 ⟨v492, rfl, ho0, hb⟩; refine ⟨_, rfl, ?_⟩; have HO493 := Aside0.mk (Kd.R_lower ho0 (below_size (bs1 HB GE489))); replace BK489 := nb BK489 hb; replace HB := Aside0.mk (below_step (bs1 HB GE489) hb); (try clear hb); (try clear hb2); (try clear hk); (try clear hi); (try clear ho0); obtain ⟨Ao10, co10, eo10⟩ := Kd.R_slice HO493.out; subst eo10))
  go_loopg [4, 14] k (fun kq v4 v14 w' => ∃ (x4_1 : Int) (x14_1 : Int), v4 = .int .i64 x4_1 ∧ v14 = .int .i64 x14_1 ∧ Aside0 (spec_PromisedIn.l0 kq x4_1 t491 (t491.length : Int) x14_1 = some (r1, r2)) ∧ Aside0 (kq ≤ k) ∧ Aside0 (Kd.R k71 71 w' w.heap.size (fun _ => True) (.slice Ao10 t491.length co10) t491) ∧ Aside0 (w'.heap[gb489]? = some (.cells #[.int .i64 a0_0, (.slice A0_1 l0_1.length c0_1), (.slice A0_2 l0_2.length c0_2), .int .i64 a0_3, (.slice A0_4 l0_4.length c0_4)] 27 (0, 0))) ∧ Aside0 (Below w.heap.size w w'))
  case atStart => exact ⟨(0), (0), (by first | rfl | (simp; done) | (simp [*]; done)), (by first | rfl | (simp; done) | (simp [*]; done)), H', ⟨Nat.le_refl _⟩, ⟨rr HO493.out⟩, ⟨bk BK489⟩, ⟨bs1 HB GE489⟩⟩
  case round =>
   clear H'
   try clear c1
   try clear c2
   try clear p2
   try clear c3
   try clear c4
   try clear hcz6_0 hcz6_1 hcz6_2 hcz6_3 hcz6_4
   try clear hcz8_0 hcz8_1 hcz8_2 hcz8_3 hcz8_4
   try clear hfz6_0 hfz6_1 hfz6_2 hfz6_3 hfz6_4
   try clear hfz8_0 hfz8_1 hfz8_2 hfz8_3 hfz8_4
   obtain ⟨x4_1, x14_1, rfl, rfl, HA, HK1, HO_12, BK489, HB⟩ := hrel
   cases gk with
   | zero => exact absurd HA.out (by simp [spec_PromisedIn.l0])
   | succ k1 =>
    have H := HA.out
    clear HA
    simp only [spec_PromisedIn.l0] at H
    by_cases c11 : x14_1 < (t491.length : Int)
    ·
     rw [if_pos c11] at H
     have c11b0 : decide (x14_1 < (t491.length : Int)) = true := decide_eq_true c11
     clear c11
     by_cases c12 : 0 ≤ x14_1
     ·
      rw [if_pos c12] at H
      have c12b0 : decide (0 ≤ x14_1) = true := decide_eq_true c12
      clear c12
      by_cases c13 : x14_1 < (t491.length : Int)
      ·
       rw [if_pos c13] at H
       have c13b0 : decide (x14_1 < (t491.length : Int)) = true := decide_eq_true c13
       clear c13
       have H' := Aside0.mk H
       clear H
       have p494 : 0 ≤ (x14_1 : Int) := of_decide_eq_true (by first | (with_reducible assumption) | assumption)
       have q494 : x14_1 < (t491.length : Int) := of_decide_eq_true (by first | (with_reducible assumption) | assumption)
       obtain ⟨ad494, e494, hx494_0, hx494_1, hx494_2, hx494_3, hx494_4⟩ := at_T71 (Kd.R_reads' HO_12.out).2.2 x14_1 p494 q494
       cases e494
       replace p494 := eq_true p494
       replace q494 := eq_true q494
       go_wp2_with (first | ((with_reducible refine gate_dst (N := 6) rfl ?_); refine box_event ?hg (N := 6) ?hd (cs := #[.int .i64 0, .int .i64 0, .int .i64 0, .int .i64 0, .int .i64 0]) (t := 71) ?hr ?_; (case hd => rfl); (case hg => rfl); (case hr => first | (go_simp; done) | (go_simp; rfl)); intro gb495 hg w14 hbox hb; replace HO_12 := Aside0.mk (Kd.R_below (Kd.R_elderB (rr HO_12.out) gb495 (Nat.le_of_eq hg.symm)) hb); have BK495 := Aside0.mk (hbox); have GW495 := Aside0.mk ((by rw [hg]; exact (below_size (bs1 HB GE489)) : w.heap.size ≤ gb495)); have GE495 := Aside0.mk ((by rw [hg]; exact (below_size (bs1 HB GE489)) : w.heap.size ≤ gb495)); replace HB := Aside0.mk (below_step (bs1 HB GE489) hb); have NB489_495 := Aside0.mk ((bn BK489 hg : gb489 ≠ gb495)); have NB495_489 := Aside0.mk ((bm BK489 hg : gb495 ≠ gb489)); replace BK489 := nb BK489 hb; clear hb hbox hg; have hnb15 := NB495_489.out; have hnc15 := NB489_495.out; obtain ⟨hcz16_0, hcz16_1, hcz16_2, hcz16_3, hcz16_4⟩ := cz5 BK495; obtain ⟨hfz16_0, hfz16_1, hfz16_2, hfz16_3, hfz16_4⟩ := fz5 BK495))
       go_roundg k1
       case measure => have := HK1.out; omega
       case rel => exact ⟨(wrap64 (x4_1 + (wrap64 (((rd_T71 t491 x14_1).f2.f1) - ((rd_T71 t491 x14_1).f3))))), (wrap64 (x14_1 + 1)), (by first | rfl | (simp; done) | (simp [*]; done)), (by first | rfl | (simp; done) | (simp [*]; done)), H', ⟨by have := HK1.out; omega⟩, ⟨by (with_reducible repeat (first | apply Kd.R_alloc | apply Kd.R_drewN | apply Kd.R_drew)); exact Kd.R_mono (Kd.R_far (p := ⟨gb495, 4, none⟩) (Kd.R_far (p := ⟨gb495, 3, none⟩) (Kd.R_far (p := ⟨gb495, 2, none⟩) (Kd.R_far (p := ⟨gb495, 1, none⟩) (Kd.R_far (p := ⟨gb495, 0, none⟩) (Kd.R_mono HO_12.out (fun k_ hk => (⟨hk, hk.2⟩ : _ ∧ k_ ≠ gb495))) (fun _ hk => hk.2) (.int .i64 ((rd_T71 t491 x14_1).f0))) (fun _ hk => hk.2) (.int .i64 ((rd_T71 t491 x14_1).f1))) (fun _ hk => hk.2) (.int .i64 ((rd_T71 t491 x14_1).f2.f0))) (fun _ hk => hk.2) (.int .i64 ((rd_T71 t491 x14_1).f2.f1))) (fun _ hk => hk.2) (.int .i64 ((rd_T71 t491 x14_1).f3))) (fun _ hk => trivial)⟩, ⟨bf BK489 NB489_495⟩, ⟨bs2 HB GE489 GE495⟩⟩
      ·
       rw [if_neg c13] at H
       exact absurd H (by simp)
     ·
      rw [if_neg c12] at H
      exact absurd H (by simp)
    ·
     rw [if_neg c11] at H
     have c11b0 : decide (x14_1 < (t491.length : Int)) = false := decide_eq_false c11
     clear c11
     simp only [Option.some.injEq, Prod.mk.injEq] at H
     obtain ⟨rfl, rfl⟩ := H
     go_wp2
     go_ret2
     exact ⟨by first | rfl | (simp [errW_none, errW_some] <;> rfl) | (simp [*, errW_none, errW_some] <;> rfl), bs1 HB GE489⟩
 ·
  replace c3 := Bool.eq_false_iff.mpr c3
  subst c3
  rw [if_neg (show ¬ (false = true) by decide)] at H
  simp only [Option.some.injEq, Prod.mk.injEq] at H
  obtain ⟨rfl, rfl⟩ := H
  go_enter Try.func23, Try.ntmps23
  go_wp2_with (first | ((with_reducible refine gate_dst (N := 1) rfl ?_); refine box_event ?hg (N := 1) ?hd (cs := #[.int .i64 a0_0, .slice A0_1 l0_1.length c0_1, .slice A0_2 l0_2.length c0_2, .int .i64 a0_3, .slice A0_4 l0_4.length c0_4]) (t := 27) ?hr ?_; (case hd => rfl); (case hg => rfl); (case hr => first | (go_simp; done) | (go_simp; rfl)); intro gb489 hg w17 hbox hb; have BK489 := Aside0.mk (hbox); have GW489 := Aside0.mk ((by rw [hg]; exact (below_size (bs HB)) : w.heap.size ≤ gb489)); have GE489 := Aside0.mk ((by rw [hg]; exact (below_size (bs HB)) : w.heap.size ≤ gb489)); replace HB := Aside0.mk (below_step (bs HB) hb); clear hb hbox hg; obtain ⟨hcz18_0, hcz18_1, hcz18_2, hcz18_3, hcz18_4⟩ := cz5 BK489; obtain ⟨hfz18_0, hfz18_1, hfz18_2, hfz18_3, hfz18_4⟩ := fz5 BK489) | ((with_reducible refine gate_callee (f := 15) rfl ?_); refine gL (some 8) rfl rfl Try.func15 (by kernel_rfl) rfl #[.agg #[.int .i64 a0_0, .slice A0_1 l0_1.length c0_1, .slice A0_2 l0_2.length c0_2, .int .i64 a0_3, .slice A0_4 l0_4.length c0_4]] rfl ?_; (with_reducible refine (spec_GoodWork.calls k a0_0 _ _ l0_1 _ _ l0_2 a0_3 _ _ l0_4 false _ ?side1 ?side2 ?side3 ?side4 ?side5 ?side6 A2.out).mono ?_); (case side1 => exact cb HR0_1 HB); (case side2 => exact HC0_1.out); (case side3 => exact cb HR0_2 HB); (case side4 => exact HC0_2.out); (case side5 => exact cb HR0_4 HB); (case side6 => exact HC0_4.out); rintro e w19 ⟨rfl, hb⟩; refine ⟨_, rfl, ?_⟩; replace BK489 := nb BK489 hb; replace HB := Aside0.mk (below_step (bs1 HB GE489) hb); (try clear hb); (try clear hb2); (try clear hk); (try clear hi)))
  go_ret2
  exact ⟨by first | rfl | (simp [errW_none, errW_some] <;> rfl) | (simp [*, errW_none, errW_some] <;> rfl), bs1 HB GE489⟩

/-! ### impl_PromisedIn: function 24 -/
def impl_PromisedIn.l0 : Nat → Int → List (S71) → Int → Int → Option (Int × Bool)
 | 0, _, _, _, _ => none
 | k + 1, x6, x16, x17, x18 => if x18 < x17 then (if 0 ≤ x18 then (if x18 < (x16.length : Int) then (impl_PromisedIn.l0 k (wrap64 (x6 + (wrap64 (((rd_T71 x16 x18).f2.f1) - ((rd_T71 x16 x18).f3))))) x16 x17 (wrap64 (x18 + 1))) else (none)) else (none)) else (some (x6, true))
def impl_PromisedIn.f (k : Nat) (a0_0 : Int) (l0_1 : List (S53)) (l0_2 : List (S53)) (a0_3 : Int) (l0_4 : List (S71)) : Option (Int × Bool) := (impl_OpenOf.f k a0_0 l0_1 l0_2 a0_3 l0_4).bind fun bt497 => (if bt497.2 = true then (impl_PromisedIn.l0 k 0 bt497.1 (bt497.1.length : Int) 0) else (some (0, false)))
theorem impl_PromisedIn.mono_l : ∀ k, (∀ y0 y1 y2 y3, LeO (impl_PromisedIn.l0 k y0 y1 y2 y3) (impl_PromisedIn.l0 (k + 1) y0 y1 y2 y3))
 | 0 => fun _ _ _ _ r h => by simp [impl_PromisedIn.l0] at h
 | k + 1 => by
  have ih0 := impl_PromisedIn.mono_l k
  ·
   intro y0 y1 y2 y3
   unfold impl_PromisedIn.l0
   repeat' first
   | (with_reducible exact ih0 _ _ _ _)
   | (with_reducible exact impl_OpenOf.mono _ _ _ _ _ _)
   | (with_reducible exact LeO.refl _)
   | (with_reducible exact LeO.none _)
   | (with_reducible refine LeO.ite ?_ ?_)
   | (with_reducible refine LeO.bind ?_ (fun _ => ?_))
   | exact ih0 _ _ _ _
   | exact impl_OpenOf.mono _ _ _ _ _ _
   | exact LeO.none _
   | refine LeO.ite ?_ ?_
   | refine LeO.bind ?_ (fun _ => ?_)
theorem impl_PromisedIn.mono : ∀ a0 a1 a2 a3 a4 k, LeO (impl_PromisedIn.f k a0 a1 a2 a3 a4) (impl_PromisedIn.f (k + 1) a0 a1 a2 a3 a4) := by
 intro a0 a1 a2 a3 a4 k
 have ih0 := impl_PromisedIn.mono_l k
 unfold impl_PromisedIn.f
 repeat' first
   | (with_reducible exact ih0 _ _ _ _)
   | (with_reducible exact impl_OpenOf.mono _ _ _ _ _ _)
   | (with_reducible exact LeO.refl _)
   | (with_reducible exact LeO.none _)
   | (with_reducible refine LeO.ite ?_ ?_)
   | (with_reducible refine LeO.bind ?_ (fun _ => ?_))
   | exact ih0 _ _ _ _
   | exact impl_OpenOf.mono _ _ _ _ _ _
   | exact LeO.none _
   | refine LeO.ite ?_ ?_
   | refine LeO.bind ?_ (fun _ => ?_)
set_option maxHeartbeats 8000000 in
set_option maxRecDepth 100000 in
theorem impl_PromisedIn.calls (k : Nat) (a0_0 : Int) (A0_1 : Option Addr) (c0_1 : Nat) (l0_1 : List (S53)) (A0_2 : Option Addr) (c0_2 : Nat) (l0_2 : List (S53)) (a0_3 : Int) (A0_4 : Option Addr) (c0_4 : Nat) (l0_4 : List (S71)) (r1 : Int) (r2 : Bool) (w : World) (hr0_1 : Kd.C k53 w A0_1 l0_1.length l0_1) (hc0_1 : l0_1.length ≤ c0_1) (hr0_2 : Kd.C k53 w A0_2 l0_2.length l0_2) (hc0_2 : l0_2.length ≤ c0_2) (hr0_4 : Kd.C k71 w A0_4 l0_4.length l0_4) (hc0_4 : l0_4.length ≤ c0_4) (h : impl_PromisedIn.f k a0_0 l0_1 l0_2 a0_3 l0_4 = some (r1, r2)) :
  Calls Try.prog 24 #[.agg #[.int .i64 a0_0, .slice A0_1 l0_1.length c0_1, .slice A0_2 l0_2.length c0_2, .int .i64 a0_3, .slice A0_4 l0_4.length c0_4]] w fun e w' => e = .returned (.tuple #[.int .i64 r1, .bool r2]) ∧ Below w.heap.size w w' := by
 have hu27 := Try.underlying27
 have hu71 := Try.underlying71
 have HR0_1 := Aside0.mk hr0_1
 have HC0_1 := Aside0.mk hc0_1
 clear hr0_1 hc0_1
 have HR0_2 := Aside0.mk hr0_2
 have HC0_2 := Aside0.mk hc0_2
 clear hr0_2 hc0_2
 have HR0_4 := Aside0.mk hr0_4
 have HC0_4 := Aside0.mk hc0_4
 clear hr0_4 hc0_4
 have HB := Aside0.mk (Below.refl w.heap.size w)
 have H : ((impl_OpenOf.f k a0_0 l0_1 l0_2 a0_3 l0_4).bind fun bt497 => (if bt497.2 = true then (impl_PromisedIn.l0 k 0 bt497.1 (bt497.1.length : Int) 0) else (some (0, false)))) = some (r1, r2) := h
 clear h
 replace H := Option.bind_eq_some_iff.mp H
 obtain ⟨⟨t497, t500⟩, A20, H⟩ := H
 replace H : (if t500 = true then (impl_PromisedIn.l0 k 0 t497 (t497.length : Int) 0) else (some (0, false))) = some (r1, r2) := H
 have A2 := Aside0.mk A20
 clear A20
 by_cases c3 : t500 = true
 ·
  subst c3
  rw [if_pos rfl] at H
  have H' := Aside0.mk H
  clear H
  go_enter Try.func24, Try.ntmps24
  go_wp2_with (first | ((with_reducible refine gate_dst (N := 1) rfl ?_); refine box_event ?hg (N := 1) ?hd (cs := #[.int .i64 a0_0, .slice A0_1 l0_1.length c0_1, .slice A0_2 l0_2.length c0_2, .int .i64 a0_3, .slice A0_4 l0_4.length c0_4]) (t := 27) ?hr ?_; (case hd => rfl); (case hg => rfl); (case hr => first | (go_simp; done) | (go_simp; rfl)); intro gb496 hg w4 hbox hb; have BK496 := Aside0.mk (hbox); have GW496 := Aside0.mk ((by rw [hg]; exact (below_size (bs HB)) : w.heap.size ≤ gb496)); have GE496 := Aside0.mk ((by rw [hg]; exact (below_size (bs HB)) : w.heap.size ≤ gb496)); replace HB := Aside0.mk (below_step (bs HB) hb); clear hb hbox hg; obtain ⟨hcz5_0, hcz5_1, hcz5_2, hcz5_3, hcz5_4⟩ := cz5 BK496; obtain ⟨hfz5_0, hfz5_1, hfz5_2, hfz5_3, hfz5_4⟩ := fz5 BK496) | ((with_reducible refine gate_callee (f := 19) rfl ?_); refine gL (some 11) rfl rfl Try.func19 (by kernel_rfl) rfl #[.agg #[.int .i64 a0_0, .slice A0_1 l0_1.length c0_1, .slice A0_2 l0_2.length c0_2, .int .i64 a0_3, .slice A0_4 l0_4.length c0_4]] rfl ?_; (with_reducible refine (impl_OpenOf.calls k a0_0 _ _ l0_1 _ _ l0_2 a0_3 _ _ l0_4 t497 true _ ?side1 ?side2 ?side3 ?side4 ?side5 ?side6 A2.out).mono ?_); (case side1 => exact cb HR0_1 HB); (case side2 => exact HC0_1.out); (case side3 => exact cb HR0_2 HB); (case side4 => exact HC0_2.out); (case side5 => exact cb HR0_4 HB); (case side6 => exact HC0_4.out); rintro e w6 ⟨v498, rfl, ho0, hb⟩; refine ⟨_, rfl, ?_⟩; have HO499 := Aside0.mk (Kd.R_lower ho0 (below_size (bs1 HB GE496))); replace BK496 := nb BK496 hb; replace HB := Aside0.mk (below_step (bs1 HB GE496) hb); (try clear hb); (try clear hb2); (try clear hk); (try clear hi); (try clear ho0); obtain ⟨Ao7, co7, eo7⟩ := Kd.R_slice HO499.out; subst eo7))
  go_loopg [6, 18] k (fun kq v6 v18 w' => ∃ (x6_1 : Int) (x18_1 : Int), v6 = .int .i64 x6_1 ∧ v18 = .int .i64 x18_1 ∧ Aside0 (impl_PromisedIn.l0 kq x6_1 t497 (t497.length : Int) x18_1 = some (r1, r2)) ∧ Aside0 (kq ≤ k) ∧ Aside0 (Kd.R k71 71 w' w.heap.size (fun _ => True) (.slice Ao7 t497.length co7) t497) ∧ Aside0 (w'.heap[gb496]? = some (.cells #[.int .i64 a0_0, (.slice A0_1 l0_1.length c0_1), (.slice A0_2 l0_2.length c0_2), .int .i64 a0_3, (.slice A0_4 l0_4.length c0_4)] 27 (0, 0))) ∧ Aside0 (Below w.heap.size w w'))
  case atStart => exact ⟨(0), (0), (by first | rfl | (simp; done) | (simp [*]; done)), (by first | rfl | (simp; done) | (simp [*]; done)), H', ⟨Nat.le_refl _⟩, ⟨rr HO499.out⟩, ⟨bk BK496⟩, ⟨bs1 HB GE496⟩⟩
  case round =>
   clear H'
   try clear c1
   try clear c2
   try clear p2
   try clear c3
   try clear hcz5_0 hcz5_1 hcz5_2 hcz5_3 hcz5_4
   try clear hfz5_0 hfz5_1 hfz5_2 hfz5_3 hfz5_4
   obtain ⟨x6_1, x18_1, rfl, rfl, HA, HK1, HO_16, BK496, HB⟩ := hrel
   cases gk with
   | zero => exact absurd HA.out (by simp [impl_PromisedIn.l0])
   | succ k1 =>
    have H := HA.out
    clear HA
    simp only [impl_PromisedIn.l0] at H
    by_cases c8 : x18_1 < (t497.length : Int)
    ·
     rw [if_pos c8] at H
     have c8b0 : decide (x18_1 < (t497.length : Int)) = true := decide_eq_true c8
     clear c8
     by_cases c9 : 0 ≤ x18_1
     ·
      rw [if_pos c9] at H
      have c9b0 : decide (0 ≤ x18_1) = true := decide_eq_true c9
      clear c9
      by_cases c10 : x18_1 < (t497.length : Int)
      ·
       rw [if_pos c10] at H
       have c10b0 : decide (x18_1 < (t497.length : Int)) = true := decide_eq_true c10
       clear c10
       have H' := Aside0.mk H
       clear H
       have p501 : 0 ≤ (x18_1 : Int) := of_decide_eq_true (by first | (with_reducible assumption) | assumption)
       have q501 : x18_1 < (t497.length : Int) := of_decide_eq_true (by first | (with_reducible assumption) | assumption)
       obtain ⟨ad501, e501, hx501_0, hx501_1, hx501_2, hx501_3, hx501_4⟩ := at_T71 (Kd.R_reads' HO_16.out).2.2 x18_1 p501 q501
       cases e501
       replace p501 := eq_true p501
       replace q501 := eq_true q501
       go_wp2_with (first | ((with_reducible refine gate_dst (N := 8) rfl ?_); refine box_event ?hg (N := 8) ?hd (cs := #[.int .i64 0, .int .i64 0, .int .i64 0, .int .i64 0, .int .i64 0]) (t := 71) ?hr ?_; (case hd => rfl); (case hg => rfl); (case hr => first | (go_simp; done) | (go_simp; rfl)); intro gb502 hg w11 hbox hb; replace HO_16 := Aside0.mk (Kd.R_below (Kd.R_elderB (rr HO_16.out) gb502 (Nat.le_of_eq hg.symm)) hb); have BK502 := Aside0.mk (hbox); have GW502 := Aside0.mk ((by rw [hg]; exact (below_size (bs1 HB GE496)) : w.heap.size ≤ gb502)); have GE502 := Aside0.mk ((by rw [hg]; exact (below_size (bs1 HB GE496)) : w.heap.size ≤ gb502)); replace HB := Aside0.mk (below_step (bs1 HB GE496) hb); have NB496_502 := Aside0.mk ((bn BK496 hg : gb496 ≠ gb502)); have NB502_496 := Aside0.mk ((bm BK496 hg : gb502 ≠ gb496)); replace BK496 := nb BK496 hb; clear hb hbox hg; have hnb12 := NB502_496.out; have hnc12 := NB496_502.out; obtain ⟨hcz13_0, hcz13_1, hcz13_2, hcz13_3, hcz13_4⟩ := cz5 BK502; obtain ⟨hfz13_0, hfz13_1, hfz13_2, hfz13_3, hfz13_4⟩ := fz5 BK502))
       go_roundg k1
       case measure => have := HK1.out; omega
       case rel => exact ⟨(wrap64 (x6_1 + (wrap64 (((rd_T71 t497 x18_1).f2.f1) - ((rd_T71 t497 x18_1).f3))))), (wrap64 (x18_1 + 1)), (by first | rfl | (simp; done) | (simp [*]; done)), (by first | rfl | (simp; done) | (simp [*]; done)), H', ⟨by have := HK1.out; omega⟩, ⟨by (with_reducible repeat (first | apply Kd.R_alloc | apply Kd.R_drewN | apply Kd.R_drew)); exact Kd.R_mono (Kd.R_far (p := ⟨gb502, 4, none⟩) (Kd.R_far (p := ⟨gb502, 3, none⟩) (Kd.R_far (p := ⟨gb502, 2, none⟩) (Kd.R_far (p := ⟨gb502, 1, none⟩) (Kd.R_far (p := ⟨gb502, 0, none⟩) (Kd.R_mono HO_16.out (fun k_ hk => (⟨hk, hk.2⟩ : _ ∧ k_ ≠ gb502))) (fun _ hk => hk.2) (.int .i64 ((rd_T71 t497 x18_1).f0))) (fun _ hk => hk.2) (.int .i64 ((rd_T71 t497 x18_1).f1))) (fun _ hk => hk.2) (.int .i64 ((rd_T71 t497 x18_1).f2.f0))) (fun _ hk => hk.2) (.int .i64 ((rd_T71 t497 x18_1).f2.f1))) (fun _ hk => hk.2) (.int .i64 ((rd_T71 t497 x18_1).f3))) (fun _ hk => trivial)⟩, ⟨bf BK496 NB496_502⟩, ⟨bs2 HB GE496 GE502⟩⟩
      ·
       rw [if_neg c10] at H
       exact absurd H (by simp)
     ·
      rw [if_neg c9] at H
      exact absurd H (by simp)
    ·
     rw [if_neg c8] at H
     have c8b0 : decide (x18_1 < (t497.length : Int)) = false := decide_eq_false c8
     clear c8
     simp only [Option.some.injEq, Prod.mk.injEq] at H
     obtain ⟨rfl, rfl⟩ := H
     go_wp2
     go_ret2
     exact ⟨by first | rfl | (simp [errW_none, errW_some] <;> rfl) | (simp [*, errW_none, errW_some] <;> rfl), bs1 HB GE496⟩
 ·
  replace c3 := Bool.eq_false_iff.mpr c3
  subst c3
  rw [if_neg (show ¬ (false = true) by decide)] at H
  simp only [Option.some.injEq, Prod.mk.injEq] at H
  obtain ⟨rfl, rfl⟩ := H
  go_enter Try.func24, Try.ntmps24
  go_wp2_with (first | ((with_reducible refine gate_dst (N := 1) rfl ?_); refine box_event ?hg (N := 1) ?hd (cs := #[.int .i64 a0_0, .slice A0_1 l0_1.length c0_1, .slice A0_2 l0_2.length c0_2, .int .i64 a0_3, .slice A0_4 l0_4.length c0_4]) (t := 27) ?hr ?_; (case hd => rfl); (case hg => rfl); (case hr => first | (go_simp; done) | (go_simp; rfl)); intro gb496 hg w14 hbox hb; have BK496 := Aside0.mk (hbox); have GW496 := Aside0.mk ((by rw [hg]; exact (below_size (bs HB)) : w.heap.size ≤ gb496)); have GE496 := Aside0.mk ((by rw [hg]; exact (below_size (bs HB)) : w.heap.size ≤ gb496)); replace HB := Aside0.mk (below_step (bs HB) hb); clear hb hbox hg; obtain ⟨hcz15_0, hcz15_1, hcz15_2, hcz15_3, hcz15_4⟩ := cz5 BK496; obtain ⟨hfz15_0, hfz15_1, hfz15_2, hfz15_3, hfz15_4⟩ := fz5 BK496) | ((with_reducible refine gate_callee (f := 19) rfl ?_); refine gL (some 11) rfl rfl Try.func19 (by kernel_rfl) rfl #[.agg #[.int .i64 a0_0, .slice A0_1 l0_1.length c0_1, .slice A0_2 l0_2.length c0_2, .int .i64 a0_3, .slice A0_4 l0_4.length c0_4]] rfl ?_; (with_reducible refine (impl_OpenOf.calls k a0_0 _ _ l0_1 _ _ l0_2 a0_3 _ _ l0_4 t497 false _ ?side1 ?side2 ?side3 ?side4 ?side5 ?side6 A2.out).mono ?_); (case side1 => exact cb HR0_1 HB); (case side2 => exact HC0_1.out); (case side3 => exact cb HR0_2 HB); (case side4 => exact HC0_2.out); (case side5 => exact cb HR0_4 HB); (case side6 => exact HC0_4.out); rintro e w16 ⟨v498, rfl, ho0, hb⟩; refine ⟨_, rfl, ?_⟩; have HO499 := Aside0.mk (Kd.R_lower ho0 (below_size (bs1 HB GE496))); replace BK496 := nb BK496 hb; replace HB := Aside0.mk (below_step (bs1 HB GE496) hb); (try clear hb); (try clear hb2); (try clear hk); (try clear hi); (try clear ho0)))
  go_ret2
  exact ⟨by first | rfl | (simp [errW_none, errW_some] <;> rfl) | (simp [*, errW_none, errW_some] <;> rfl), bs1 HB GE496⟩

/-! ### laws_FnExactPromisedIn: function 6 -/
def laws_FnExactPromisedIn.j0 : Nat → Bool → Int → List (S50) → List (S50) → Int → List (S88) → Int → List (S53) → List (S53) → Int → List (S71) → Option (Bool)
 | 0, _, _, _, _, _, _, _, _, _, _, _ => none
 | k + 1, x34, x504000, x504001, x504002, x504003, x504004, x530000, x530001, x530002, x530003, x530004 => if x34 = true then (some false) else ((laws_toWork.f k x504000 x504001 x504002 x504003 x504004).bind fun bt532 => ((laws_eqWork.f k x530000 x530001 x530002 x530003 x530004 bt532.1 bt532.2.1 bt532.2.2.1 bt532.2.2.2.1 bt532.2.2.2.2).bind fun t543 => (if t543 = true then (some true) else (some false))))
def laws_FnExactPromisedIn.f (k : Nat) (a0_0 : Int) (l0_1 : List (S50)) (l0_2 : List (S50)) (a0_3 : Int) (l0_4 : List (S88)) : Option (Bool) := (laws_szWork.f a0_0 l0_1 l0_2 a0_3 l0_4 1048576).bind fun t504 => (if t504 < 0 then (some true) else ((laws_toWork.f k a0_0 l0_1 l0_2 a0_3 l0_4).bind fun bt505 => ((spec_PromisedIn.f k bt505.1 bt505.2.1 bt505.2.2.1 bt505.2.2.2.1 bt505.2.2.2.2).bind fun bt516 => ((laws_toWork.f k a0_0 l0_1 l0_2 a0_3 l0_4).bind fun bt518 => ((impl_PromisedIn.f k bt518.1 bt518.2.1 bt518.2.2.1 bt518.2.2.2.1 bt518.2.2.2.2).bind fun bt530 => (if bt530.1 = bt516.1 then (laws_FnExactPromisedIn.j0 k (bt530.2 != bt516.2) a0_0 l0_1 l0_2 a0_3 l0_4 bt518.1 bt518.2.1 bt518.2.2.1 bt518.2.2.2.1 bt518.2.2.2.2) else (laws_FnExactPromisedIn.j0 k true a0_0 l0_1 l0_2 a0_3 l0_4 bt518.1 bt518.2.1 bt518.2.2.1 bt518.2.2.2.1 bt518.2.2.2.2)))))))
theorem laws_FnExactPromisedIn.mono_l : ∀ k, (∀ y0 y1 y2 y3 y4 y5 y6 y7 y8 y9 y10, LeO (laws_FnExactPromisedIn.j0 k y0 y1 y2 y3 y4 y5 y6 y7 y8 y9 y10) (laws_FnExactPromisedIn.j0 (k + 1) y0 y1 y2 y3 y4 y5 y6 y7 y8 y9 y10))
 | 0 => fun _ _ _ _ _ _ _ _ _ _ _ r h => by simp [laws_FnExactPromisedIn.j0] at h
 | k + 1 => by
  have ih0 := laws_FnExactPromisedIn.mono_l k
  ·
   intro y0 y1 y2 y3 y4 y5 y6 y7 y8 y9 y10
   unfold laws_FnExactPromisedIn.j0
   repeat' first
   | (with_reducible exact ih0 _ _ _ _ _ _ _ _ _ _ _)
   | (with_reducible exact impl_PromisedIn.mono _ _ _ _ _ _)
   | (with_reducible exact laws_eqWork.mono _ _ _ _ _ _ _ _ _ _ _)
   | (with_reducible exact laws_toWork.mono _ _ _ _ _ _)
   | (with_reducible exact spec_PromisedIn.mono _ _ _ _ _ _)
   | (with_reducible exact LeO.refl _)
   | (with_reducible exact LeO.none _)
   | (with_reducible refine LeO.ite ?_ ?_)
   | (with_reducible refine LeO.bind ?_ (fun _ => ?_))
   | exact ih0 _ _ _ _ _ _ _ _ _ _ _
   | exact impl_PromisedIn.mono _ _ _ _ _ _
   | exact laws_eqWork.mono _ _ _ _ _ _ _ _ _ _ _
   | exact laws_toWork.mono _ _ _ _ _ _
   | exact spec_PromisedIn.mono _ _ _ _ _ _
   | exact LeO.none _
   | refine LeO.ite ?_ ?_
   | refine LeO.bind ?_ (fun _ => ?_)
theorem laws_FnExactPromisedIn.mono : ∀ a0 a1 a2 a3 a4 k, LeO (laws_FnExactPromisedIn.f k a0 a1 a2 a3 a4) (laws_FnExactPromisedIn.f (k + 1) a0 a1 a2 a3 a4) := by
 intro a0 a1 a2 a3 a4 k
 have ih0 := laws_FnExactPromisedIn.mono_l k
 unfold laws_FnExactPromisedIn.f
 repeat' first
   | (with_reducible exact ih0 _ _ _ _ _ _ _ _ _ _ _)
   | (with_reducible exact impl_PromisedIn.mono _ _ _ _ _ _)
   | (with_reducible exact laws_eqWork.mono _ _ _ _ _ _ _ _ _ _ _)
   | (with_reducible exact laws_toWork.mono _ _ _ _ _ _)
   | (with_reducible exact spec_PromisedIn.mono _ _ _ _ _ _)
   | (with_reducible exact LeO.refl _)
   | (with_reducible exact LeO.none _)
   | (with_reducible refine LeO.ite ?_ ?_)
   | (with_reducible refine LeO.bind ?_ (fun _ => ?_))
   | exact ih0 _ _ _ _ _ _ _ _ _ _ _
   | exact impl_PromisedIn.mono _ _ _ _ _ _
   | exact laws_eqWork.mono _ _ _ _ _ _ _ _ _ _ _
   | exact laws_toWork.mono _ _ _ _ _ _
   | exact spec_PromisedIn.mono _ _ _ _ _ _
   | exact LeO.none _
   | refine LeO.ite ?_ ?_
   | refine LeO.bind ?_ (fun _ => ?_)
set_option maxHeartbeats 8000000 in
set_option maxRecDepth 100000 in
theorem laws_FnExactPromisedIn.calls (k : Nat) (a0_0 : Int) (A0_1 : Option Addr) (c0_1 : Nat) (l0_1 : List (S50)) (A0_2 : Option Addr) (c0_2 : Nat) (l0_2 : List (S50)) (a0_3 : Int) (A0_4 : Option Addr) (c0_4 : Nat) (l0_4 : List (S88)) (r : Bool) (w : World) (hr0_1 : Kd.C k50 w A0_1 l0_1.length l0_1) (hc0_1 : l0_1.length ≤ c0_1) (hr0_2 : Kd.C k50 w A0_2 l0_2.length l0_2) (hc0_2 : l0_2.length ≤ c0_2) (hr0_4 : Kd.C k88 w A0_4 l0_4.length l0_4) (hc0_4 : l0_4.length ≤ c0_4) (h : laws_FnExactPromisedIn.f k a0_0 l0_1 l0_2 a0_3 l0_4 = some r) :
  Calls Try.prog 6 #[.agg #[.int .i64 a0_0, .slice A0_1 l0_1.length c0_1, .slice A0_2 l0_2.length c0_2, .int .i64 a0_3, .slice A0_4 l0_4.length c0_4]] w fun e w' => e = .returned (.bool r) ∧ Below w.heap.size w w' := by
 have hu38 := Try.underlying38
 have hu27 := Try.underlying27
 have HR0_1 := Aside0.mk hr0_1
 have HC0_1 := Aside0.mk hc0_1
 clear hr0_1 hc0_1
 have HR0_2 := Aside0.mk hr0_2
 have HC0_2 := Aside0.mk hc0_2
 clear hr0_2 hc0_2
 have HR0_4 := Aside0.mk hr0_4
 have HC0_4 := Aside0.mk hc0_4
 clear hr0_4 hc0_4
 have HB := Aside0.mk (Below.refl w.heap.size w)
 have H : ((laws_szWork.f a0_0 l0_1 l0_2 a0_3 l0_4 1048576).bind fun t504 => (if t504 < 0 then (some true) else ((laws_toWork.f k a0_0 l0_1 l0_2 a0_3 l0_4).bind fun bt505 => ((spec_PromisedIn.f k bt505.1 bt505.2.1 bt505.2.2.1 bt505.2.2.2.1 bt505.2.2.2.2).bind fun bt516 => ((laws_toWork.f k a0_0 l0_1 l0_2 a0_3 l0_4).bind fun bt518 => ((impl_PromisedIn.f k bt518.1 bt518.2.1 bt518.2.2.1 bt518.2.2.2.1 bt518.2.2.2.2).bind fun bt530 => (if bt530.1 = bt516.1 then (laws_FnExactPromisedIn.j0 k (bt530.2 != bt516.2) a0_0 l0_1 l0_2 a0_3 l0_4 bt518.1 bt518.2.1 bt518.2.2.1 bt518.2.2.2.1 bt518.2.2.2.2) else (laws_FnExactPromisedIn.j0 k true a0_0 l0_1 l0_2 a0_3 l0_4 bt518.1 bt518.2.1 bt518.2.2.1 bt518.2.2.2.1 bt518.2.2.2.2)))))))) = some r := h
 clear h
 replace H := Option.bind_eq_some_iff.mp H
 obtain ⟨t504, A20, H⟩ := H
 replace H : (if t504 < 0 then (some true) else ((laws_toWork.f k a0_0 l0_1 l0_2 a0_3 l0_4).bind fun bt505 => ((spec_PromisedIn.f k bt505.1 bt505.2.1 bt505.2.2.1 bt505.2.2.2.1 bt505.2.2.2.2).bind fun bt516 => ((laws_toWork.f k a0_0 l0_1 l0_2 a0_3 l0_4).bind fun bt518 => ((impl_PromisedIn.f k bt518.1 bt518.2.1 bt518.2.2.1 bt518.2.2.2.1 bt518.2.2.2.2).bind fun bt530 => (if bt530.1 = bt516.1 then (laws_FnExactPromisedIn.j0 k (bt530.2 != bt516.2) a0_0 l0_1 l0_2 a0_3 l0_4 bt518.1 bt518.2.1 bt518.2.2.1 bt518.2.2.2.1 bt518.2.2.2.2) else (laws_FnExactPromisedIn.j0 k true a0_0 l0_1 l0_2 a0_3 l0_4 bt518.1 bt518.2.1 bt518.2.2.1 bt518.2.2.2.1 bt518.2.2.2.2))))))) = some r := H
 have A2 := Aside0.mk A20
 clear A20
 by_cases c3 : t504 < 0
 ·
  rw [if_pos c3] at H
  have c3b0 : decide (t504 < 0) = true := decide_eq_true c3
  clear c3
  obtain rfl := Option.some.inj H
  go_enter Try.func6, Try.ntmps6
  go_wp2_with (first | ((with_reducible refine gate_dst (N := 1) rfl ?_); refine box_event ?hg (N := 1) ?hd (cs := #[.int .i64 a0_0, .slice A0_1 l0_1.length c0_1, .slice A0_2 l0_2.length c0_2, .int .i64 a0_3, .slice A0_4 l0_4.length c0_4]) (t := 38) ?hr ?_; (case hd => rfl); (case hg => rfl); (case hr => first | (go_simp; done) | (go_simp; rfl)); intro gb503 hg w4 hbox hb; have BK503 := Aside0.mk (hbox); have GW503 := Aside0.mk ((by rw [hg]; exact (below_size (bs HB)) : w.heap.size ≤ gb503)); have GE503 := Aside0.mk ((by rw [hg]; exact (below_size (bs HB)) : w.heap.size ≤ gb503)); replace HB := Aside0.mk (below_step (bs HB) hb); clear hb hbox hg; obtain ⟨hcz5_0, hcz5_1, hcz5_2, hcz5_3, hcz5_4⟩ := cz5 BK503; obtain ⟨hfz5_0, hfz5_1, hfz5_2, hfz5_3, hfz5_4⟩ := fz5 BK503) | ((with_reducible refine gate_callee (f := 14) rfl ?_); refine gL (some 11) rfl rfl Try.func14 (by kernel_rfl) rfl #[.agg #[.int .i64 a0_0, .slice A0_1 l0_1.length c0_1, .slice A0_2 l0_2.length c0_2, .int .i64 a0_3, .slice A0_4 l0_4.length c0_4], .int .i64 1048576] rfl ?_; (with_reducible refine (laws_szWork.calls a0_0 _ _ l0_1 _ _ l0_2 a0_3 _ _ l0_4 1048576 t504 _ ?side1 ?side2 ?side3 ?side4 ?side5 ?side6 A2.out).mono ?_); (case side1 => exact cb HR0_1 HB); (case side2 => exact HC0_1.out); (case side3 => exact cb HR0_2 HB); (case side4 => exact HC0_2.out); (case side5 => exact cb HR0_4 HB); (case side6 => exact HC0_4.out); rintro e w6 ⟨rfl, hb⟩; refine ⟨_, rfl, ?_⟩; replace BK503 := nb BK503 hb; replace HB := Aside0.mk (below_step (bs1 HB GE503) hb); (try clear hb); (try clear hb2); (try clear hk); (try clear hi)))
  go_ret
  exact ⟨by first | rfl | (simp [errW_none, errW_some] <;> rfl) | (simp [*, errW_none, errW_some] <;> rfl), bs1 HB GE503⟩
 ·
  rw [if_neg c3] at H
  have c3b0 : decide (t504 < 0) = false := decide_eq_false c3
  clear c3
  replace H := Option.bind_eq_some_iff.mp H
  obtain ⟨⟨t505, t506, t509, t512, t513⟩, A70, H⟩ := H
  replace H : ((spec_PromisedIn.f k t505 t506 t509 t512 t513).bind fun bt516 => ((laws_toWork.f k a0_0 l0_1 l0_2 a0_3 l0_4).bind fun bt518 => ((impl_PromisedIn.f k bt518.1 bt518.2.1 bt518.2.2.1 bt518.2.2.2.1 bt518.2.2.2.2).bind fun bt530 => (if bt530.1 = bt516.1 then (laws_FnExactPromisedIn.j0 k (bt530.2 != bt516.2) a0_0 l0_1 l0_2 a0_3 l0_4 bt518.1 bt518.2.1 bt518.2.2.1 bt518.2.2.2.1 bt518.2.2.2.2) else (laws_FnExactPromisedIn.j0 k true a0_0 l0_1 l0_2 a0_3 l0_4 bt518.1 bt518.2.1 bt518.2.2.1 bt518.2.2.2.1 bt518.2.2.2.2))))) = some r := H
  have A7 := Aside0.mk A70
  clear A70
  replace H := Option.bind_eq_some_iff.mp H
  obtain ⟨⟨t516, t517⟩, A80, H⟩ := H
  replace H : ((laws_toWork.f k a0_0 l0_1 l0_2 a0_3 l0_4).bind fun bt518 => ((impl_PromisedIn.f k bt518.1 bt518.2.1 bt518.2.2.1 bt518.2.2.2.1 bt518.2.2.2.2).bind fun bt530 => (if bt530.1 = t516 then (laws_FnExactPromisedIn.j0 k (bt530.2 != t517) a0_0 l0_1 l0_2 a0_3 l0_4 bt518.1 bt518.2.1 bt518.2.2.1 bt518.2.2.2.1 bt518.2.2.2.2) else (laws_FnExactPromisedIn.j0 k true a0_0 l0_1 l0_2 a0_3 l0_4 bt518.1 bt518.2.1 bt518.2.2.1 bt518.2.2.2.1 bt518.2.2.2.2)))) = some r := H
  have A8 := Aside0.mk A80
  clear A80
  replace H := Option.bind_eq_some_iff.mp H
  obtain ⟨⟨t518, t519, t522, t525, t526⟩, A90, H⟩ := H
  replace H : ((impl_PromisedIn.f k t518 t519 t522 t525 t526).bind fun bt530 => (if bt530.1 = t516 then (laws_FnExactPromisedIn.j0 k (bt530.2 != t517) a0_0 l0_1 l0_2 a0_3 l0_4 t518 t519 t522 t525 t526) else (laws_FnExactPromisedIn.j0 k true a0_0 l0_1 l0_2 a0_3 l0_4 t518 t519 t522 t525 t526))) = some r := H
  have A9 := Aside0.mk A90
  clear A90
  replace H := Option.bind_eq_some_iff.mp H
  obtain ⟨⟨t530, t531⟩, A100, H⟩ := H
  replace H : (if t530 = t516 then (laws_FnExactPromisedIn.j0 k (t531 != t517) a0_0 l0_1 l0_2 a0_3 l0_4 t518 t519 t522 t525 t526) else (laws_FnExactPromisedIn.j0 k true a0_0 l0_1 l0_2 a0_3 l0_4 t518 t519 t522 t525 t526)) = some r := H
  have A10 := Aside0.mk A100
  clear A100
  have HC11 := Aside0.mk H
  clear H
  go_enter Try.func6, Try.ntmps6
  go_upto_region 8 with (first | ((with_reducible refine gate_dst (N := 1) rfl ?_); refine box_event ?hg (N := 1) ?hd (cs := #[.int .i64 a0_0, .slice A0_1 l0_1.length c0_1, .slice A0_2 l0_2.length c0_2, .int .i64 a0_3, .slice A0_4 l0_4.length c0_4]) (t := 38) ?hr ?_; (case hd => rfl); (case hg => rfl); (case hr => first | (go_simp; done) | (go_simp; rfl)); intro gb503 hg w12 hbox hb; have BK503 := Aside0.mk (hbox); have GW503 := Aside0.mk ((by rw [hg]; exact (below_size (bs HB)) : w.heap.size ≤ gb503)); have GE503 := Aside0.mk ((by rw [hg]; exact (below_size (bs HB)) : w.heap.size ≤ gb503)); replace HB := Aside0.mk (below_step (bs HB) hb); clear hb hbox hg; obtain ⟨hcz13_0, hcz13_1, hcz13_2, hcz13_3, hcz13_4⟩ := cz5 BK503; obtain ⟨hfz13_0, hfz13_1, hfz13_2, hfz13_3, hfz13_4⟩ := fz5 BK503) | ((with_reducible refine gate_callee (f := 14) rfl ?_); refine gL (some 11) rfl rfl Try.func14 (by kernel_rfl) rfl #[.agg #[.int .i64 a0_0, .slice A0_1 l0_1.length c0_1, .slice A0_2 l0_2.length c0_2, .int .i64 a0_3, .slice A0_4 l0_4.length c0_4], .int .i64 1048576] rfl ?_; (with_reducible refine (laws_szWork.calls a0_0 _ _ l0_1 _ _ l0_2 a0_3 _ _ l0_4 1048576 t504 _ ?side1 ?side2 ?side3 ?side4 ?side5 ?side6 A2.out).mono ?_); (case side1 => exact cb HR0_1 HB); (case side2 => exact HC0_1.out); (case side3 => exact cb HR0_2 HB); (case side4 => exact HC0_2.out); (case side5 => exact cb HR0_4 HB); (case side6 => exact HC0_4.out); rintro e w14 ⟨rfl, hb⟩; refine ⟨_, rfl, ?_⟩; replace BK503 := nb BK503 hb; replace HB := Aside0.mk (below_step (bs1 HB GE503) hb); (try clear hb); (try clear hb2); (try clear hk); (try clear hi); obtain ⟨hcz15_0, hcz15_1, hcz15_2, hcz15_3, hcz15_4⟩ := cz5 BK503; obtain ⟨hfz15_0, hfz15_1, hfz15_2, hfz15_3, hfz15_4⟩ := fz5 BK503) | ((with_reducible refine gate_callee (f := 16) rfl ?_); refine gL (some 16) rfl rfl Try.func16 (by kernel_rfl) rfl #[.agg #[.int .i64 a0_0, .slice A0_1 l0_1.length c0_1, .slice A0_2 l0_2.length c0_2, .int .i64 a0_3, .slice A0_4 l0_4.length c0_4]] rfl ?_; (with_reducible refine (laws_toWork.calls k a0_0 _ _ l0_1 _ _ l0_2 a0_3 _ _ l0_4 t505 t506 t509 t512 t513 _ ?side1 ?side2 ?side3 ?side4 ?side5 ?side6 A7.out).mono ?_); (case side1 => exact cb HR0_1 HB); (case side2 => exact HC0_1.out); (case side3 => exact cb HR0_2 HB); (case side4 => exact HC0_2.out); (case side5 => exact cb HR0_4 HB); (case side6 => exact HC0_4.out); rintro e w16 ⟨v507, v510, v514, rfl, ho0, ho1, ho2, hb⟩; refine ⟨_, rfl, ?_⟩; have HO508 := Aside0.mk (Kd.R_lower ho0 (below_size (bs1 HB GE503))); have HO511 := Aside0.mk (Kd.R_lower ho1 (below_size (bs1 HB GE503))); have HO515 := Aside0.mk (Kd.R_lower ho2 (below_size (bs1 HB GE503))); replace BK503 := nb BK503 hb; replace HB := Aside0.mk (below_step (bs1 HB GE503) hb); (try clear hb); (try clear hb2); (try clear hk); (try clear hi); (try clear ho0); (try clear ho1); (try clear ho2); obtain ⟨Ao17, co17, eo17⟩ := Kd.R_slice HO508.out; subst eo17; obtain ⟨Ao18, co18, eo18⟩ := Kd.R_slice HO511.out; subst eo18; obtain ⟨Ao19, co19, eo19⟩ := Kd.R_slice HO515.out; subst eo19) | ((with_reducible refine gate_callee (f := 23) rfl ?_); refine gL (some 17) rfl rfl Try.func23 (by kernel_rfl) rfl #[.agg #[.int .i64 t505, .slice Ao17 t506.length co17, .slice Ao18 t509.length co18, .int .i64 t512, .slice Ao19 t513.length co19]] rfl ?_; (with_reducible refine (spec_PromisedIn.calls k t505 _ _ t506 _ _ t509 t512 _ _ t513 t516 t517 _ ?side1 ?side2 ?side3 ?side4 ?side5 ?side6 A8.out).mono ?_); (case side1 => exact rc0 HO508); (case side2 => exact (Kd.R_reads' HO508.out).2.1); (case side3 => exact rc0 HO511); (case side4 => exact (Kd.R_reads' HO511.out).2.1); (case side5 => exact rc0 HO515); (case side6 => exact (Kd.R_reads' HO515.out).2.1); rintro e w20 ⟨rfl, hb⟩; refine ⟨_, rfl, ?_⟩; replace HO508 := nr HO508 hb; replace HO511 := nr HO511 hb; replace HO515 := nr HO515 hb; replace BK503 := nb BK503 hb; replace HB := Aside0.mk (below_step (bs1 HB GE503) hb); (try clear hb); (try clear hb2); (try clear hk); (try clear hi); obtain ⟨hcz21_0, hcz21_1, hcz21_2, hcz21_3, hcz21_4⟩ := cz5 BK503; obtain ⟨hfz21_0, hfz21_1, hfz21_2, hfz21_3, hfz21_4⟩ := fz5 BK503) | ((with_reducible refine gate_callee (f := 16) rfl ?_); refine gL (some 21) rfl rfl Try.func16 (by kernel_rfl) rfl #[.agg #[.int .i64 a0_0, .slice A0_1 l0_1.length c0_1, .slice A0_2 l0_2.length c0_2, .int .i64 a0_3, .slice A0_4 l0_4.length c0_4]] rfl ?_; (with_reducible refine (laws_toWork.calls k a0_0 _ _ l0_1 _ _ l0_2 a0_3 _ _ l0_4 t518 t519 t522 t525 t526 _ ?side1 ?side2 ?side3 ?side4 ?side5 ?side6 A9.out).mono ?_); (case side1 => exact cb HR0_1 HB); (case side2 => exact HC0_1.out); (case side3 => exact cb HR0_2 HB); (case side4 => exact HC0_2.out); (case side5 => exact cb HR0_4 HB); (case side6 => exact HC0_4.out); rintro e w22 ⟨v520, v523, v527, rfl, ho0, ho1, ho2, hb⟩; refine ⟨_, rfl, ?_⟩; have HO521 := Aside0.mk (Kd.R_lower (Kd.R_new' (Kd.R_new' ho0 (Kd.R_lt (rr HO508.out))) (Kd.R_lt (rr HO511.out))) (below_size (bs1 HB GE503))); have HO524 := Aside0.mk (Kd.R_lower (Kd.R_new' (Kd.R_new' ho1 (Kd.R_lt (rr HO508.out))) (Kd.R_lt (rr HO511.out))) (below_size (bs1 HB GE503))); replace HO508 := Aside0.mk (Kd.R_mono (Kd.R_told (Kd.R_told (Kd.R_old (rr HO508.out) hb) (Kd.R_base ho0)) (Kd.R_base ho1)) (fun _ h_ => h_.1)); replace HO511 := Aside0.mk (Kd.R_mono (Kd.R_told (Kd.R_told (Kd.R_old (rr HO511.out) hb) (Kd.R_base ho0)) (Kd.R_base ho1)) (fun _ h_ => h_.1)); have HO528 := Aside0.mk (Kd.R_lower (Kd.R_new' ho2 (Kd.R_lt (rr HO515.out))) (below_size (bs1 HB GE503))); replace HO515 := Aside0.mk (Kd.R_elder' (rr HO515.out) (Kd.R_base ho2) hb); replace BK503 := nb BK503 hb; replace HB := Aside0.mk (below_step (bs1 HB GE503) hb); (try clear hb); (try clear hb2); (try clear hk); (try clear hi); (try clear ho0); (try clear ho1); (try clear ho2)) | ((with_reducible refine gate_dst (N := 6) rfl ?_); refine box_event ?hg (N := 6) ?hd (cs := #[.int .i64 0, .slice none 0 0, .slice none 0 0, .int .i64 0, .slice none 0 0]) (t := 27) ?hr ?_; (case hd => rfl); (case hg => rfl); (case hr => first | (go_simp; done) | (go_simp; rfl)); intro gb529 hg w23 hbox hb; replace HO508 := nr HO508 hb; replace HO511 := nr HO511 hb; replace HO515 := nr HO515 hb; replace HO521 := nr HO521 hb; replace HO524 := nr HO524 hb; replace HO528 := nr HO528 hb; have BK529 := Aside0.mk (hbox); have GW529 := Aside0.mk ((by rw [hg]; exact (below_size (bs1 HB GE503)) : w.heap.size ≤ gb529)); have GE529 := Aside0.mk ((by rw [hg]; exact (below_size (bs1 HB GE503)) : w.heap.size ≤ gb529)); replace HB := Aside0.mk (below_step (bs1 HB GE503) hb); have NB503_529 := Aside0.mk ((bn BK503 hg : gb503 ≠ gb529)); have NB529_503 := Aside0.mk ((bm BK503 hg : gb529 ≠ gb503)); replace BK503 := nb BK503 hb; clear hb hbox hg; have hnb24 := NB529_503.out; have hnc24 := NB503_529.out; obtain ⟨hcz25_0, hcz25_1, hcz25_2, hcz25_3, hcz25_4⟩ := cz5 BK529; obtain ⟨hfz25_0, hfz25_1, hfz25_2, hfz25_3, hfz25_4⟩ := fz5 BK529; obtain ⟨Ao26, co26, eo26⟩ := Kd.R_slice HO521.out; subst eo26; obtain ⟨Ao27, co27, eo27⟩ := Kd.R_slice HO524.out; subst eo27; obtain ⟨Ao28, co28, eo28⟩ := Kd.R_slice HO528.out; subst eo28) | ((with_reducible refine gate_callee (f := 24) rfl ?_); refine gL (some 24) rfl rfl Try.func24 (by kernel_rfl) rfl #[.agg #[.int .i64 t518, .slice Ao26 t519.length co26, .slice Ao27 t522.length co27, .int .i64 t525, .slice Ao28 t526.length co28]] rfl ?_; (with_reducible refine (impl_PromisedIn.calls k t518 _ _ t519 _ _ t522 t525 _ _ t526 t530 t531 _ ?side1 ?side2 ?side3 ?side4 ?side5 ?side6 A10.out).mono ?_); (case side1 => exact rc HO521 BK529); (case side2 => exact (Kd.R_reads' HO521.out).2.1); (case side3 => exact rc HO524 BK529); (case side4 => exact (Kd.R_reads' HO524.out).2.1); (case side5 => exact rc HO528 BK529); (case side6 => exact (Kd.R_reads' HO528.out).2.1); rintro e w29 ⟨rfl, hb⟩; refine ⟨_, rfl, ?_⟩; replace HO508 := nf HO508 BK529 hb; replace HO511 := nf HO511 BK529 hb; replace HO515 := nf HO515 BK529 hb; replace HO521 := nf HO521 BK529 hb; replace HO524 := nf HO524 BK529 hb; replace HO528 := nf HO528 BK529 hb; replace BK503 := Aside0.mk (blk_below (bf BK503 NB503_529) hb); replace BK529 := Aside0.mk (blk_below (g := gb529) (o := .cells #[.int .i64 t518, .slice Ao26 t519.length co26, .slice Ao27 t522.length co27, .int .i64 t525, .slice Ao28 t526.length co28] 27 (0, 0)) (by (with_reducible repeat (first | refine blk_drewN ?_ _ | refine blk_drew ?_ | refine blk_alloc ?_ _)); refine blk_put (cs := #[.int .i64 t518, .slice Ao26 t519.length co26, .slice Ao27 t522.length co27, .int .i64 t525, .slice none 0 0]) ?_ 4 _ rfl; (with_reducible repeat (first | refine blk_drewN ?_ _ | refine blk_drew ?_ | refine blk_alloc ?_ _)); refine blk_put (cs := #[.int .i64 t518, .slice Ao26 t519.length co26, .slice Ao27 t522.length co27, .int .i64 0, .slice none 0 0]) ?_ 3 _ rfl; (with_reducible repeat (first | refine blk_drewN ?_ _ | refine blk_drew ?_ | refine blk_alloc ?_ _)); refine blk_put (cs := #[.int .i64 t518, .slice Ao26 t519.length co26, .slice none 0 0, .int .i64 0, .slice none 0 0]) ?_ 2 _ rfl; (with_reducible repeat (first | refine blk_drewN ?_ _ | refine blk_drew ?_ | refine blk_alloc ?_ _)); refine blk_put (cs := #[.int .i64 t518, .slice none 0 0, .slice none 0 0, .int .i64 0, .slice none 0 0]) ?_ 1 _ rfl; (with_reducible repeat (first | refine blk_drewN ?_ _ | refine blk_drew ?_ | refine blk_alloc ?_ _)); refine blk_put (cs := #[.int .i64 0, .slice none 0 0, .slice none 0 0, .int .i64 0, .slice none 0 0]) ?_ 0 _ rfl; (with_reducible repeat (first | refine blk_drewN ?_ _ | refine blk_drew ?_ | refine blk_alloc ?_ _)); exact BK529.out) hb); replace HB := Aside0.mk (below_step (bs2 HB GE503 GE529) hb); (try clear hb); (try clear hb2); (try clear hk); (try clear hi)))
  (try simp only [Act.put, List.setIfInBounds_toArray, List.set_cons_zero, List.set_cons_succ])
  go_cut [34] (fun v34 wc => ∃ (kq : Nat) (x34_10 : Bool), v34 = .bool x34_10 ∧ Aside0 (laws_FnExactPromisedIn.j0 kq x34_10 a0_0 l0_1 l0_2 a0_3 l0_4 t518 t519 t522 t525 t526 = some r) ∧ Aside0 (kq ≤ k) ∧ Aside0 (Kd.R k53 53 wc w.heap.size (fun k_ => some k_ ≠ ((.slice Ao27 t522.length co27) : Value).ownBlock) (.slice Ao26 t519.length co26) t519) ∧ Aside0 (Kd.R k53 53 wc w.heap.size (fun k_ => some k_ ≠ ((.slice Ao26 t519.length co26) : Value).ownBlock) (.slice Ao27 t522.length co27) t522) ∧ Aside0 (Kd.R k71 71 wc w.heap.size (fun _ => True) (.slice Ao28 t526.length co28) t526) ∧ Aside0 (wc.heap[gb503]? = some (.cells #[.int .i64 a0_0, (.slice A0_1 l0_1.length c0_1), (.slice A0_2 l0_2.length c0_2), .int .i64 a0_3, (.slice A0_4 l0_4.length c0_4)] 38 (0, 0))) ∧ Aside0 (wc.heap[gb529]? = some (.cells #[.int .i64 t518, (.slice Ao26 t519.length co26), (.slice Ao27 t522.length co27), .int .i64 t525, (.slice Ao28 t526.length co28)] 27 (0, 0))) ∧ Aside0 (Below w.heap.size w wc))
  case first =>
   have H := HC11.out
   clear HC11
   by_cases c30 : t530 = t516
   ·
    rw [if_pos c30] at H
    have c30b0 : (t530 == t516) = true := beq_iff_eq.mpr c30
    have c30b1 : (t530 != t516) = false := bne_eq_false_iff_eq.mpr c30
    clear c30
    (first | rw [c30b0] | (simp only [i64_w, i32_w]; rw [c30b0]) | (simp only [c30b2, Bool.not_false, Bool.not_true]) | skip)
    have H' := Aside0.mk H
    clear H
    go_wp2
    go_meet
    case rel => exact ⟨_, ((t531 != t517)), (by first | rfl | (simp; done) | (simp [*]; done)), H', ⟨by first | omega | exact Nat.le_refl _⟩, rm HO521 (fun _ hk => hk.1.1), rm HO524 (fun _ hk => hk.1.1), rm HO528 (fun _ hk => trivial), ⟨bk BK503⟩, ⟨bk BK529⟩, ⟨bs2 HB GE503 GE529⟩⟩
   ·
    rw [if_neg c30] at H
    have c30b0 : (t530 == t516) = false := beq_eq_false_iff_ne.mpr c30
    have c30b1 : (t530 != t516) = true := bne_iff_ne.mpr c30
    (first | rw [c30b0] | (simp only [i64_w, i32_w]; rw [c30b0]) | (simp only [c30b2, Bool.not_false, Bool.not_true]) | skip)
    have H' := Aside0.mk H
    clear H
    go_wp2
    go_meet
    case rel => exact ⟨_, (true), (by first | rfl | (simp; done) | (simp [*]; done)), H', ⟨by first | omega | exact Nat.le_refl _⟩, rm HO521 (fun _ hk => hk.1.1), rm HO524 (fun _ hk => hk.1.1), rm HO528 (fun _ hk => trivial), ⟨bk BK503⟩, ⟨bk BK529⟩, ⟨bs2 HB GE503 GE529⟩⟩
  case rest =>
   clear HC11
   try clear c1
   try clear c2
   try clear p2
   try clear c3
   try clear c3b0
   try clear c6
   try clear c14
   try clear c16
   try clear c23
   try clear c24
   try clear c30
   try clear c30b0
   try clear c30b1
   try clear hcz13_0 hcz13_1 hcz13_2 hcz13_3 hcz13_4
   try clear hcz15_0 hcz15_1 hcz15_2 hcz15_3 hcz15_4
   try clear hcz21_0 hcz21_1 hcz21_2 hcz21_3 hcz21_4
   try clear hcz25_0 hcz25_1 hcz25_2 hcz25_3 hcz25_4
   try clear hcz5_0 hcz5_1 hcz5_2 hcz5_3 hcz5_4
   try clear hfz13_0 hfz13_1 hfz13_2 hfz13_3 hfz13_4
   try clear hfz15_0 hfz15_1 hfz15_2 hfz15_3 hfz15_4
   try clear hfz21_0 hfz21_1 hfz21_2 hfz21_3 hfz21_4
   try clear hfz25_0 hfz25_1 hfz25_2 hfz25_3 hfz25_4
   try clear hfz5_0 hfz5_1 hfz5_2 hfz5_3 hfz5_4
   obtain ⟨kq, x34_10, rfl, HA, HJ10, HO_530001, HO_530002, HO_530004, BK503, BK529, HB⟩ := hcut
   cases kq with
   | zero => exact absurd HA.out (by simp [laws_FnExactPromisedIn.j0])
   | succ kj10 =>
    have H := HA.out
    clear HA
    simp only [laws_FnExactPromisedIn.j0] at H
    by_cases c31 : x34_10 = true
    ·
     subst c31
     rw [if_pos rfl] at H
     obtain rfl := Option.some.inj H
     go_wp2
     go_ret
     exact ⟨by first | rfl | (simp [errW_none, errW_some] <;> rfl) | (simp [*, errW_none, errW_some] <;> rfl), bs2 HB GE503 GE529⟩
    ·
     replace c31 := Bool.eq_false_iff.mpr c31
     subst c31
     rw [if_neg (show ¬ (false = true) by decide)] at H
     replace H := Option.bind_eq_some_iff.mp H
     obtain ⟨⟨t532, t533, t536, t539, t540⟩, A320, H⟩ := H
     replace H : ((laws_eqWork.f kj10 t518 t519 t522 t525 t526 t532 t533 t536 t539 t540).bind fun t543 => (if t543 = true then (some true) else (some false))) = some r := H
     have A32 := Aside0.mk A320
     clear A320
     replace H := Option.bind_eq_some_iff.mp H
     obtain ⟨t543, A330, H⟩ := H
     replace H : (if t543 = true then (some true) else (some false)) = some r := H
     have A33 := Aside0.mk A330
     clear A330
     by_cases c34 : t543 = true
     ·
      subst c34
      rw [if_pos rfl] at H
      obtain rfl := Option.some.inj H
      try go_wp2
      have n0_ := Aside0.mk (Kd.R_drew HO_530001.out)
      have n1_ := Aside0.mk (Kd.R_drew HO_530002.out)
      have n2_ := Aside0.mk (Kd.R_drew HO_530004.out)
      have n3_ := Aside0.mk (blk_drew BK503.out)
      have n4_ := Aside0.mk (blk_drew BK529.out)
      have n5_ := Aside0.mk (below_drew1 HB.out)
      clear HO_530001
      clear HO_530002
      clear HO_530004
      clear BK503
      clear BK529
      clear HB
      have HO_530001 := n0_
      have HO_530002 := n1_
      have HO_530004 := n2_
      have BK503 := n3_
      have BK529 := n4_
      have HB := n5_
      clear n0_ n1_ n2_ n3_ n4_ n5_
      refine start_ (n := 5) (S := fun w' => w'.cell? ⟨gb529, 0, none⟩ = some (.int .i64 t518) ∧ w'.cell? ⟨gb529, 1, none⟩ = some (.slice Ao26 t519.length co26) ∧ w'.cell? ⟨gb529, 2, none⟩ = some (.slice Ao27 t522.length co27) ∧ w'.cell? ⟨gb529, 3, none⟩ = some (.int .i64 t525) ∧ w'.cell? ⟨gb529, 4, none⟩ = some (.slice Ao28 t526.length co28) ∧ w'.cell? ⟨gb503, 0, none⟩ = some (.int .i64 a0_0) ∧ w'.cell? ⟨gb503, 1, none⟩ = some (.slice A0_1 l0_1.length c0_1) ∧ w'.cell? ⟨gb503, 2, none⟩ = some (.slice A0_2 l0_2.length c0_2) ∧ w'.cell? ⟨gb503, 3, none⟩ = some (.int .i64 a0_3) ∧ w'.cell? ⟨gb503, 4, none⟩ = some (.slice A0_4 l0_4.length c0_4)) (ds := []) #[false, false, false, false, false] (by kernel_rfl) rfl rfl ⟨(blk_cell BK529.out 0).trans rfl, (blk_cell BK529.out 1).trans rfl, (blk_cell BK529.out 2).trans rfl, (blk_cell BK529.out 3).trans rfl, (blk_cell BK529.out 4).trans rfl, (blk_cell BK503.out 0).trans rfl, (blk_cell BK503.out 1).trans rfl, (blk_cell BK503.out 2).trans rfl, (blk_cell BK503.out 3).trans rfl, (blk_cell BK503.out 4).trans rfl⟩ (fun hHeld => ?_)
      generalize wc.drew = w35 at HO_530001 HO_530002 HO_530004 BK503 BK529 HB hHeld ⊢
      refine take_ (i := 0) (N := some 35) (v := ?_) (a' := ?_) #[true, false, false, false, false] rfl rfl (by kernel_rfl) (fun _ _ _ h => h) (Or.inl ⟨by rfl, ?_⟩) hHeld ?_ ?_
      rotate_left
      ·
       rintro w' ⟨s0, s1, s2, s3, s4, s5, s6, s7, s8, s9⟩
       go_simp
       with_reducible rfl
      rotate_left
      ·
       simp only [Act.put, List.setIfInBounds_toArray, List.set_cons_zero, List.set_cons_succ, i64_w, i32_w]
       rfl
      refine take_ (i := 1) (N := some 36) (v := ?_) (a' := ?_) #[true, true, false, false, false] rfl rfl (by kernel_rfl) (fun _ _ _ h => h) (Or.inl ⟨by rfl, ?_⟩) hHeld ?_ ?_
      rotate_left
      ·
       rintro w' ⟨s0, s1, s2, s3, s4, s5, s6, s7, s8, s9⟩
       go_simp
       with_reducible rfl
      rotate_left
      ·
       simp only [Act.put, List.setIfInBounds_toArray, List.set_cons_zero, List.set_cons_succ, i64_w, i32_w]
       rfl
      refine one_ (i := 2) (N := some 37) #[true, true, true, false, false] rfl rfl (by kernel_rfl) (by decide) (fun K hK => ?_)
      refine goes_ Try.func16 (by kernel_rfl) rfl #[.agg #[.int .i64 a0_0, .slice A0_1 l0_1.length c0_1, .slice A0_2 l0_2.length c0_2, .int .i64 a0_3, .slice A0_4 l0_4.length c0_4]] (by rfl) rfl rfl (by (try simp only [List.map_toArray, List.map_cons, List.map_nil]); first | done | rfl | (simp only [List.length_drop, List.length_take]; rfl)) ?_
      with_reducible refine (laws_toWork.calls kj10 a0_0 _ _ l0_1 _ _ l0_2 a0_3 _ _ l0_4 t532 t533 t536 t539 t540 _ ?side1 ?side2 ?side3 ?side4 ?side5 ?side6 A32.out).mono ?_
      (case side1 => exact cb HR0_1 HB)
      (case side2 => exact HC0_1.out)
      (case side3 => exact cb HR0_2 HB)
      (case side4 => exact HC0_2.out)
      (case side5 => exact cb HR0_4 HB)
      (case side6 => exact HC0_4.out)
      rintro e w36 ⟨v534, v537, v541, rfl, ho0, ho1, ho2, hb⟩
      refine ⟨_, rfl, ?_⟩
      have n0_ := Aside0.mk (Kd.R_mono (Kd.R_told (Kd.R_told (Kd.R_old (rr HO_530001.out) hb) (Kd.R_base ho0)) (Kd.R_base ho1)) (fun _ h_ => h_.1))
      have n1_ := Aside0.mk (Kd.R_mono (Kd.R_told (Kd.R_told (Kd.R_old (rr HO_530002.out) hb) (Kd.R_base ho0)) (Kd.R_base ho1)) (fun _ h_ => h_.1))
      have n2_ := Aside0.mk (Kd.R_elder' (rr HO_530004.out) (Kd.R_base ho2) hb)
      have n3_ := Aside0.mk (Kd.R_lower (Kd.R_new' (Kd.R_new' ho0 (Kd.R_lt (rr HO_530001.out))) (Kd.R_lt (rr HO_530002.out))) (below_size (bs2 HB GE503 GE529)))
      have n4_ := Aside0.mk (Kd.R_lower (Kd.R_new' (Kd.R_new' ho1 (Kd.R_lt (rr HO_530001.out))) (Kd.R_lt (rr HO_530002.out))) (below_size (bs2 HB GE503 GE529)))
      have n5_ := Aside0.mk (Kd.R_lower (Kd.R_new' ho2 (Kd.R_lt (rr HO_530004.out))) (below_size (bs2 HB GE503 GE529)))
      have n6_ := Aside0.mk (bb BK503 hb)
      have n7_ := Aside0.mk (bb BK529 hb)
      have n8_ := Aside0.mk (below_step (bs2 HB GE503 GE529) hb)
      clear HO_530001
      clear HO_530002
      clear HO_530004
      clear BK503
      clear BK529
      clear HB
      have HO_530001 := n0_
      have HO_530002 := n1_
      have HO_530004 := n2_
      have HO535 := n3_
      have HO538 := n4_
      have HO542 := n5_
      have BK503 := n6_
      have BK529 := n7_
      have HB := n8_
      clear n0_ n1_ n2_ n3_ n4_ n5_ n6_ n7_ n8_
      (try clear hb)
      (try clear hb2)
      (try clear hk)
      (try clear hi)
      (try clear ho0)
      (try clear ho1)
      (try clear ho2)
      obtain ⟨Ao37, co37, eo37⟩ := Kd.R_slice HO535.out
      (first | subst eo37 | (injection eo37 with f1_ f2_ f3_; have f4_ := f1_.symm; have f5_ := f3_.symm; clear f1_ f2_ f3_; subst f4_; subst f5_))
      obtain ⟨Ao38, co38, eo38⟩ := Kd.R_slice HO538.out
      (first | subst eo38 | (injection eo38 with f1_ f2_ f3_; have f4_ := f1_.symm; have f5_ := f3_.symm; clear f1_ f2_ f3_; subst f4_; subst f5_))
      obtain ⟨Ao39, co39, eo39⟩ := Kd.R_slice HO542.out
      (first | subst eo39 | (injection eo39 with f1_ f2_ f3_; have f4_ := f1_.symm; have f5_ := f3_.symm; clear f1_ f2_ f3_; subst f4_; subst f5_))
      refine hK.out _ _ ⟨(blk_cell BK529.out 0).trans rfl, (blk_cell BK529.out 1).trans rfl, (blk_cell BK529.out 2).trans rfl, (blk_cell BK529.out 3).trans rfl, (blk_cell BK529.out 4).trans rfl, (blk_cell BK503.out 0).trans rfl, (blk_cell BK503.out 1).trans rfl, (blk_cell BK503.out 2).trans rfl, (blk_cell BK503.out 3).trans rfl, (blk_cell BK503.out 4).trans rfl⟩ (fun hHeld => ?_)
      clear hK K
      refine norm_ (a' := ?_) ?_ ?_
      rotate_left
      ·
       show Act.put _ (some 37) _ = _
       simp only [Act.put, List.setIfInBounds_toArray, List.set_cons_zero, List.set_cons_succ, i64_w, i32_w]
       rfl
      refine one_ (i := 3) (N := some 38) #[true, true, true, true, false] rfl rfl (by kernel_rfl) (by decide) (fun K hK => ?_)
      refine goes_ Try.func11 (by kernel_rfl) rfl #[.agg #[.int .i64 t518, .slice Ao26 t519.length co26, .slice Ao27 t522.length co27, .int .i64 t525, .slice Ao28 t526.length co28], .agg #[.int .i64 t532, .slice Ao37 t533.length co37, .slice Ao38 t536.length co38, .int .i64 t539, .slice Ao39 t540.length co39]] (by rfl) rfl rfl (by (try simp only [List.map_toArray, List.map_cons, List.map_nil]); first | done | rfl | (simp only [List.length_drop, List.length_take]; rfl)) ?_
      with_reducible refine (laws_eqWork.calls kj10 t518 _ _ t519 _ _ t522 t525 _ _ t526 t532 _ _ t533 _ _ t536 t539 _ _ t540 true _ ?side1 ?side2 ?side3 ?side4 ?side5 ?side6 ?side7 ?side8 ?side9 ?side10 ?side11 ?side12 A33.out).mono ?_
      (case side1 => exact rc0 HO_530001)
      (case side2 => exact (Kd.R_reads' HO_530001.out).2.1)
      (case side3 => exact rc0 HO_530002)
      (case side4 => exact (Kd.R_reads' HO_530002.out).2.1)
      (case side5 => exact rc0 HO_530004)
      (case side6 => exact (Kd.R_reads' HO_530004.out).2.1)
      (case side7 => exact rc0 HO535)
      (case side8 => exact (Kd.R_reads' HO535.out).2.1)
      (case side9 => exact rc0 HO538)
      (case side10 => exact (Kd.R_reads' HO538.out).2.1)
      (case side11 => exact rc0 HO542)
      (case side12 => exact (Kd.R_reads' HO542.out).2.1)
      rintro e w40 ⟨rfl, hb⟩
      refine ⟨_, rfl, ?_⟩
      have n0_ := Aside0.mk (Kd.R_below (rr HO_530001.out) hb)
      have n1_ := Aside0.mk (Kd.R_below (rr HO_530002.out) hb)
      have n2_ := Aside0.mk (Kd.R_below (rr HO_530004.out) hb)
      have n3_ := Aside0.mk (Kd.R_below (rr HO535.out) hb)
      have n4_ := Aside0.mk (Kd.R_below (rr HO538.out) hb)
      have n5_ := Aside0.mk (Kd.R_below (rr HO542.out) hb)
      have n6_ := Aside0.mk (bb BK503 hb)
      have n7_ := Aside0.mk (bb BK529 hb)
      have n8_ := Aside0.mk (below_step (bs2 HB GE503 GE529) hb)
      clear HO_530001
      clear HO_530002
      clear HO_530004
      clear HO535
      clear HO538
      clear HO542
      clear BK503
      clear BK529
      clear HB
      have HO_530001 := n0_
      have HO_530002 := n1_
      have HO_530004 := n2_
      have HO535 := n3_
      have HO538 := n4_
      have HO542 := n5_
      have BK503 := n6_
      have BK529 := n7_
      have HB := n8_
      clear n0_ n1_ n2_ n3_ n4_ n5_ n6_ n7_ n8_
      (try clear hb)
      (try clear hb2)
      (try clear hk)
      (try clear hi)
      refine hK.out _ _ ⟨(blk_cell BK529.out 0).trans rfl, (blk_cell BK529.out 1).trans rfl, (blk_cell BK529.out 2).trans rfl, (blk_cell BK529.out 3).trans rfl, (blk_cell BK529.out 4).trans rfl, (blk_cell BK503.out 0).trans rfl, (blk_cell BK503.out 1).trans rfl, (blk_cell BK503.out 2).trans rfl, (blk_cell BK503.out 3).trans rfl, (blk_cell BK503.out 4).trans rfl⟩ (fun hHeld => ?_)
      clear hK K
      refine norm_ (a' := ?_) ?_ ?_
      rotate_left
      ·
       show Act.put _ (some 38) _ = _
       simp only [Act.put, List.setIfInBounds_toArray, List.set_cons_zero, List.set_cons_succ, i64_w, i32_w]
       rfl
      refine pure_ (i := 4) (N := some 39) (v := ?_) (a' := ?_) #[true, true, true, true, true] rfl rfl (by kernel_rfl) (fun _ _ _ h => h) (Or.inl ⟨by rfl, ?_⟩) ?_ ?_
      rotate_left
      ·
       intro w'
       go_simp
       with_reducible rfl
      rotate_left
      ·
       simp only [Act.put, List.setIfInBounds_toArray, List.set_cons_zero, List.set_cons_succ, i64_w, i32_w]
       rfl
      refine done_ (by kernel_rfl) ?_
      try go_wp2
      go_ret
      exact ⟨by first | rfl | (simp [errW_none, errW_some] <;> rfl) | (simp [*, errW_none, errW_some] <;> rfl), bs2 HB GE503 GE529⟩
     ·
      replace c34 := Bool.eq_false_iff.mpr c34
      subst c34
      rw [if_neg (show ¬ (false = true) by decide)] at H
      obtain rfl := Option.some.inj H
      try go_wp2
      have n0_ := Aside0.mk (Kd.R_drew HO_530001.out)
      have n1_ := Aside0.mk (Kd.R_drew HO_530002.out)
      have n2_ := Aside0.mk (Kd.R_drew HO_530004.out)
      have n3_ := Aside0.mk (blk_drew BK503.out)
      have n4_ := Aside0.mk (blk_drew BK529.out)
      have n5_ := Aside0.mk (below_drew1 HB.out)
      clear HO_530001
      clear HO_530002
      clear HO_530004
      clear BK503
      clear BK529
      clear HB
      have HO_530001 := n0_
      have HO_530002 := n1_
      have HO_530004 := n2_
      have BK503 := n3_
      have BK529 := n4_
      have HB := n5_
      clear n0_ n1_ n2_ n3_ n4_ n5_
      refine start_ (n := 5) (S := fun w' => w'.cell? ⟨gb529, 0, none⟩ = some (.int .i64 t518) ∧ w'.cell? ⟨gb529, 1, none⟩ = some (.slice Ao26 t519.length co26) ∧ w'.cell? ⟨gb529, 2, none⟩ = some (.slice Ao27 t522.length co27) ∧ w'.cell? ⟨gb529, 3, none⟩ = some (.int .i64 t525) ∧ w'.cell? ⟨gb529, 4, none⟩ = some (.slice Ao28 t526.length co28) ∧ w'.cell? ⟨gb503, 0, none⟩ = some (.int .i64 a0_0) ∧ w'.cell? ⟨gb503, 1, none⟩ = some (.slice A0_1 l0_1.length c0_1) ∧ w'.cell? ⟨gb503, 2, none⟩ = some (.slice A0_2 l0_2.length c0_2) ∧ w'.cell? ⟨gb503, 3, none⟩ = some (.int .i64 a0_3) ∧ w'.cell? ⟨gb503, 4, none⟩ = some (.slice A0_4 l0_4.length c0_4)) (ds := []) #[false, false, false, false, false] (by kernel_rfl) rfl rfl ⟨(blk_cell BK529.out 0).trans rfl, (blk_cell BK529.out 1).trans rfl, (blk_cell BK529.out 2).trans rfl, (blk_cell BK529.out 3).trans rfl, (blk_cell BK529.out 4).trans rfl, (blk_cell BK503.out 0).trans rfl, (blk_cell BK503.out 1).trans rfl, (blk_cell BK503.out 2).trans rfl, (blk_cell BK503.out 3).trans rfl, (blk_cell BK503.out 4).trans rfl⟩ (fun hHeld => ?_)
      generalize wc.drew = w41 at HO_530001 HO_530002 HO_530004 BK503 BK529 HB hHeld ⊢
      refine take_ (i := 0) (N := some 35) (v := ?_) (a' := ?_) #[true, false, false, false, false] rfl rfl (by kernel_rfl) (fun _ _ _ h => h) (Or.inl ⟨by rfl, ?_⟩) hHeld ?_ ?_
      rotate_left
      ·
       rintro w' ⟨s0, s1, s2, s3, s4, s5, s6, s7, s8, s9⟩
       go_simp
       with_reducible rfl
      rotate_left
      ·
       simp only [Act.put, List.setIfInBounds_toArray, List.set_cons_zero, List.set_cons_succ, i64_w, i32_w]
       rfl
      refine take_ (i := 1) (N := some 36) (v := ?_) (a' := ?_) #[true, true, false, false, false] rfl rfl (by kernel_rfl) (fun _ _ _ h => h) (Or.inl ⟨by rfl, ?_⟩) hHeld ?_ ?_
      rotate_left
      ·
       rintro w' ⟨s0, s1, s2, s3, s4, s5, s6, s7, s8, s9⟩
       go_simp
       with_reducible rfl
      rotate_left
      ·
       simp only [Act.put, List.setIfInBounds_toArray, List.set_cons_zero, List.set_cons_succ, i64_w, i32_w]
       rfl
      refine one_ (i := 2) (N := some 37) #[true, true, true, false, false] rfl rfl (by kernel_rfl) (by decide) (fun K hK => ?_)
      refine goes_ Try.func16 (by kernel_rfl) rfl #[.agg #[.int .i64 a0_0, .slice A0_1 l0_1.length c0_1, .slice A0_2 l0_2.length c0_2, .int .i64 a0_3, .slice A0_4 l0_4.length c0_4]] (by rfl) rfl rfl (by (try simp only [List.map_toArray, List.map_cons, List.map_nil]); first | done | rfl | (simp only [List.length_drop, List.length_take]; rfl)) ?_
      with_reducible refine (laws_toWork.calls kj10 a0_0 _ _ l0_1 _ _ l0_2 a0_3 _ _ l0_4 t532 t533 t536 t539 t540 _ ?side1 ?side2 ?side3 ?side4 ?side5 ?side6 A32.out).mono ?_
      (case side1 => exact cb HR0_1 HB)
      (case side2 => exact HC0_1.out)
      (case side3 => exact cb HR0_2 HB)
      (case side4 => exact HC0_2.out)
      (case side5 => exact cb HR0_4 HB)
      (case side6 => exact HC0_4.out)
      rintro e w42 ⟨v534, v537, v541, rfl, ho0, ho1, ho2, hb⟩
      refine ⟨_, rfl, ?_⟩
      have n0_ := Aside0.mk (Kd.R_mono (Kd.R_told (Kd.R_told (Kd.R_old (rr HO_530001.out) hb) (Kd.R_base ho0)) (Kd.R_base ho1)) (fun _ h_ => h_.1))
      have n1_ := Aside0.mk (Kd.R_mono (Kd.R_told (Kd.R_told (Kd.R_old (rr HO_530002.out) hb) (Kd.R_base ho0)) (Kd.R_base ho1)) (fun _ h_ => h_.1))
      have n2_ := Aside0.mk (Kd.R_elder' (rr HO_530004.out) (Kd.R_base ho2) hb)
      have n3_ := Aside0.mk (Kd.R_lower (Kd.R_new' (Kd.R_new' ho0 (Kd.R_lt (rr HO_530001.out))) (Kd.R_lt (rr HO_530002.out))) (below_size (bs2 HB GE503 GE529)))
      have n4_ := Aside0.mk (Kd.R_lower (Kd.R_new' (Kd.R_new' ho1 (Kd.R_lt (rr HO_530001.out))) (Kd.R_lt (rr HO_530002.out))) (below_size (bs2 HB GE503 GE529)))
      have n5_ := Aside0.mk (Kd.R_lower (Kd.R_new' ho2 (Kd.R_lt (rr HO_530004.out))) (below_size (bs2 HB GE503 GE529)))
      have n6_ := Aside0.mk (bb BK503 hb)
      have n7_ := Aside0.mk (bb BK529 hb)
      have n8_ := Aside0.mk (below_step (bs2 HB GE503 GE529) hb)
      clear HO_530001
      clear HO_530002
      clear HO_530004
      clear BK503
      clear BK529
      clear HB
      have HO_530001 := n0_
      have HO_530002 := n1_
      have HO_530004 := n2_
      have HO535 := n3_
      have HO538 := n4_
      have HO542 := n5_
      have BK503 := n6_
      have BK529 := n7_
      have HB := n8_
      clear n0_ n1_ n2_ n3_ n4_ n5_ n6_ n7_ n8_
      (try clear hb)
      (try clear hb2)
      (try clear hk)
      (try clear hi)
      (try clear ho0)
      (try clear ho1)
      (try clear ho2)
      obtain ⟨Ao43, co43, eo43⟩ := Kd.R_slice HO535.out
      (first | subst eo43 | (injection eo43 with f1_ f2_ f3_; have f4_ := f1_.symm; have f5_ := f3_.symm; clear f1_ f2_ f3_; subst f4_; subst f5_))
      obtain ⟨Ao44, co44, eo44⟩ := Kd.R_slice HO538.out
      (first | subst eo44 | (injection eo44 with f1_ f2_ f3_; have f4_ := f1_.symm; have f5_ := f3_.symm; clear f1_ f2_ f3_; subst f4_; subst f5_))
      obtain ⟨Ao45, co45, eo45⟩ := Kd.R_slice HO542.out
      (first | subst eo45 | (injection eo45 with f1_ f2_ f3_; have f4_ := f1_.symm; have f5_ := f3_.symm; clear f1_ f2_ f3_; subst f4_; subst f5_))
      refine hK.out _ _ ⟨(blk_cell BK529.out 0).trans rfl, (blk_cell BK529.out 1).trans rfl, (blk_cell BK529.out 2).trans rfl, (blk_cell BK529.out 3).trans rfl, (blk_cell BK529.out 4).trans rfl, (blk_cell BK503.out 0).trans rfl, (blk_cell BK503.out 1).trans rfl, (blk_cell BK503.out 2).trans rfl, (blk_cell BK503.out 3).trans rfl, (blk_cell BK503.out 4).trans rfl⟩ (fun hHeld => ?_)
      clear hK K
      refine norm_ (a' := ?_) ?_ ?_
      rotate_left
      ·
       show Act.put _ (some 37) _ = _
       simp only [Act.put, List.setIfInBounds_toArray, List.set_cons_zero, List.set_cons_succ, i64_w, i32_w]
       rfl
      refine one_ (i := 3) (N := some 38) #[true, true, true, true, false] rfl rfl (by kernel_rfl) (by decide) (fun K hK => ?_)
      refine goes_ Try.func11 (by kernel_rfl) rfl #[.agg #[.int .i64 t518, .slice Ao26 t519.length co26, .slice Ao27 t522.length co27, .int .i64 t525, .slice Ao28 t526.length co28], .agg #[.int .i64 t532, .slice Ao43 t533.length co43, .slice Ao44 t536.length co44, .int .i64 t539, .slice Ao45 t540.length co45]] (by rfl) rfl rfl (by (try simp only [List.map_toArray, List.map_cons, List.map_nil]); first | done | rfl | (simp only [List.length_drop, List.length_take]; rfl)) ?_
      with_reducible refine (laws_eqWork.calls kj10 t518 _ _ t519 _ _ t522 t525 _ _ t526 t532 _ _ t533 _ _ t536 t539 _ _ t540 false _ ?side1 ?side2 ?side3 ?side4 ?side5 ?side6 ?side7 ?side8 ?side9 ?side10 ?side11 ?side12 A33.out).mono ?_
      (case side1 => exact rc0 HO_530001)
      (case side2 => exact (Kd.R_reads' HO_530001.out).2.1)
      (case side3 => exact rc0 HO_530002)
      (case side4 => exact (Kd.R_reads' HO_530002.out).2.1)
      (case side5 => exact rc0 HO_530004)
      (case side6 => exact (Kd.R_reads' HO_530004.out).2.1)
      (case side7 => exact rc0 HO535)
      (case side8 => exact (Kd.R_reads' HO535.out).2.1)
      (case side9 => exact rc0 HO538)
      (case side10 => exact (Kd.R_reads' HO538.out).2.1)
      (case side11 => exact rc0 HO542)
      (case side12 => exact (Kd.R_reads' HO542.out).2.1)
      rintro e w46 ⟨rfl, hb⟩
      refine ⟨_, rfl, ?_⟩
      have n0_ := Aside0.mk (Kd.R_below (rr HO_530001.out) hb)
      have n1_ := Aside0.mk (Kd.R_below (rr HO_530002.out) hb)
      have n2_ := Aside0.mk (Kd.R_below (rr HO_530004.out) hb)
      have n3_ := Aside0.mk (Kd.R_below (rr HO535.out) hb)
      have n4_ := Aside0.mk (Kd.R_below (rr HO538.out) hb)
      have n5_ := Aside0.mk (Kd.R_below (rr HO542.out) hb)
      have n6_ := Aside0.mk (bb BK503 hb)
      have n7_ := Aside0.mk (bb BK529 hb)
      have n8_ := Aside0.mk (below_step (bs2 HB GE503 GE529) hb)
      clear HO_530001
      clear HO_530002
      clear HO_530004
      clear HO535
      clear HO538
      clear HO542
      clear BK503
      clear BK529
      clear HB
      have HO_530001 := n0_
      have HO_530002 := n1_
      have HO_530004 := n2_
      have HO535 := n3_
      have HO538 := n4_
      have HO542 := n5_
      have BK503 := n6_
      have BK529 := n7_
      have HB := n8_
      clear n0_ n1_ n2_ n3_ n4_ n5_ n6_ n7_ n8_
      (try clear hb)
      (try clear hb2)
      (try clear hk)
      (try clear hi)
      refine hK.out _ _ ⟨(blk_cell BK529.out 0).trans rfl, (blk_cell BK529.out 1).trans rfl, (blk_cell BK529.out 2).trans rfl, (blk_cell BK529.out 3).trans rfl, (blk_cell BK529.out 4).trans rfl, (blk_cell BK503.out 0).trans rfl, (blk_cell BK503.out 1).trans rfl, (blk_cell BK503.out 2).trans rfl, (blk_cell BK503.out 3).trans rfl, (blk_cell BK503.out 4).trans rfl⟩ (fun hHeld => ?_)
      clear hK K
      refine norm_ (a' := ?_) ?_ ?_
      rotate_left
      ·
       show Act.put _ (some 38) _ = _
       simp only [Act.put, List.setIfInBounds_toArray, List.set_cons_zero, List.set_cons_succ, i64_w, i32_w]
       rfl
      refine pure_ (i := 4) (N := some 39) (v := ?_) (a' := ?_) #[true, true, true, true, true] rfl rfl (by kernel_rfl) (fun _ _ _ h => h) (Or.inl ⟨by rfl, ?_⟩) ?_ ?_
      rotate_left
      ·
       intro w'
       go_simp
       with_reducible rfl
      rotate_left
      ·
       simp only [Act.put, List.setIfInBounds_toArray, List.set_cons_zero, List.set_cons_succ, i64_w, i32_w]
       rfl
      refine done_ (by kernel_rfl) ?_
      try go_wp2
      go_ret
      exact ⟨by first | rfl | (simp [errW_none, errW_some] <;> rfl) | (simp [*, errW_none, errW_some] <;> rfl), bs2 HB GE503 GE529⟩

/-- THE ONE PURE STATEMENT of laws_FnExactPromisedIn. -/
def laws_FnExactPromisedIn.Pure : Prop := ∀ (a0_0 : Int) (l0_1 : List (S50)) (l0_2 : List (S50)) (a0_3 : Int) (l0_4 : List (S88)), ok38 (⟨(⟨a0_0, l0_1, l0_2⟩ : S35), a0_3, l0_4⟩ : S38) → ∃ k, laws_FnExactPromisedIn.f k a0_0 l0_1 l0_2 a0_3 l0_4 = some true

end Go.Proofs.Ytakgjdckolllaaa.G
