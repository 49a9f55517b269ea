-- Printed by a program of this session (drive.py, by way of the kit's print). Not trusted: Lean checks it.
import Derived.Test.YthlifcbkpafofaaDoorG0
import Derived.Test.YthlifcbkpafofaaDoorG2
import Derived.Test.YthlifcbkpafofaaDoorG3
import Derived.Test.YthlifcbkpafofaaDoorG4
import Derived.Test.YthlifcbkpafofaaDoorG6
namespace Go.Proofs.YthlifcbkpafofaaDoor.G
open Go.RowKit Go.Proofs.YthlifcbkpafofaaDoorW.PrintWords Go.Proofs.YthlifcbkpafofaaDoorW.PrintLast Go.Proofs.YthlifcbkpafofaaDoorW.PrintMore
attribute [local go_sem] max2_int min2_int max_two min_two max_three min_three max_four min_four   -- for this text's walks alone
set_option linter.unusedVariables false
set_option linter.unusedSimpArgs false

/-! ### impl_PushTail: function 39 -/
def impl_PushTail.f (k : Nat) (l0_0 : List (S26)) (a0_1 : Int) (a0_2 : Int) (a0_3 : Int) (a1 : Int) : Option ((List (S26)) × Int × Int × Int × Bool) := (impl_GoodRing.f k l0_0 a0_1 a0_2 a0_3).bind fun t299 => (if t299 = true then ((impl_within.f a1 0 (wrap64 (a0_1 - a0_3))).bind fun t300 => (if t300 = true then ((impl_ownRing.f l0_0 a0_1 a0_2 a0_3).bind fun bt301 => (some (bt301.1, bt301.2.1, bt301.2.2.1, wrap64 (bt301.2.2.2 + a1), true))) else (some (([] : List (S26)), 0, 0, 0, false)))) else (some (([] : List (S26)), 0, 0, 0, false)))
theorem impl_PushTail.mono : ∀ a0 a1 a2 a3 a4 k, LeO (impl_PushTail.f k a0 a1 a2 a3 a4) (impl_PushTail.f (k + 1) a0 a1 a2 a3 a4) := by
 intro a0 a1 a2 a3 a4 k
 unfold impl_PushTail.f
 repeat' first
   | (with_reducible exact impl_GoodRing.mono _ _ _ _ _)
   | (with_reducible exact LeO.refl _)
   | (with_reducible exact LeO.none _)
   | (with_reducible refine LeO.ite ?_ ?_)
   | (with_reducible refine LeO.bind ?_ (fun _ => ?_))
   | exact impl_GoodRing.mono _ _ _ _ _
   | exact LeO.none _
   | refine LeO.ite ?_ ?_
   | refine LeO.bind ?_ (fun _ => ?_)
set_option maxHeartbeats 8000000 in
set_option maxRecDepth 100000 in
theorem impl_PushTail.calls (k : Nat) (A0_0 : Option Addr) (c0_0 : Nat) (l0_0 : List (S26)) (a0_1 : Int) (a0_2 : Int) (a0_3 : Int) (a1 : Int) (r1 : List (S26)) (r2 : Int) (r3 : Int) (r4 : Int) (r5 : Bool) (w : World) (hTab_ : Aside0 (Ito.TabW w)) (hr0_0 : Kd.C k26 w A0_0 l0_0.length l0_0) (hc0_0 : l0_0.length ≤ c0_0) (h : impl_PushTail.f k l0_0 a0_1 a0_2 a0_3 a1 = some (r1, r2, r3, r4, r5)) :
  Calls Tryd.prog 39 #[.agg #[.slice A0_0 l0_0.length c0_0, .int .i64 a0_1, .int .i64 a0_2, .int .i64 a0_3], .int .i64 a1] w fun e w' => ∃ v0_ : Value, e = .returned (.tuple #[.agg #[v0_, .int .i64 r2, .int .i64 r3, .int .i64 r4], .bool r5]) ∧ Kd.R k26 26 w' w.heap.size (fun _ => True) v0_ r1 ∧ Below w.heap.size w w' := by
 have hu36 := Tryd.underlying36
 have HR0_0 := Aside0.mk hr0_0
 have HC0_0 := Aside0.mk hc0_0
 clear hr0_0 hc0_0
 have HB := Aside0.mk (Below.refl w.heap.size w)
 have H : ((impl_GoodRing.f k l0_0 a0_1 a0_2 a0_3).bind fun t299 => (if t299 = true then ((impl_within.f a1 0 (wrap64 (a0_1 - a0_3))).bind fun t300 => (if t300 = true then ((impl_ownRing.f l0_0 a0_1 a0_2 a0_3).bind fun bt301 => (some (bt301.1, bt301.2.1, bt301.2.2.1, wrap64 (bt301.2.2.2 + a1), true))) else (some (([] : List (S26)), 0, 0, 0, false)))) else (some (([] : List (S26)), 0, 0, 0, false)))) = some (r1, r2, r3, r4, r5) := h
 clear h
 replace H := Option.bind_eq_some_iff.mp H
 obtain ⟨t299, A30, H⟩ := H
 replace H : (if t299 = true then ((impl_within.f a1 0 (wrap64 (a0_1 - a0_3))).bind fun t300 => (if t300 = true then ((impl_ownRing.f l0_0 a0_1 a0_2 a0_3).bind fun bt301 => (some (bt301.1, bt301.2.1, bt301.2.2.1, wrap64 (bt301.2.2.2 + a1), true))) else (some (([] : List (S26)), 0, 0, 0, false)))) else (some (([] : List (S26)), 0, 0, 0, false))) = some (r1, r2, r3, r4, r5) := H
 have A3 := Aside0.mk A30
 clear A30
 by_cases c4 : t299 = true
 ·
  subst c4
  rw [if_pos rfl] at H
  replace H := Option.bind_eq_some_iff.mp H
  obtain ⟨t300, A50, H⟩ := H
  replace H : (if t300 = true then ((impl_ownRing.f l0_0 a0_1 a0_2 a0_3).bind fun bt301 => (some (bt301.1, bt301.2.1, bt301.2.2.1, wrap64 (bt301.2.2.2 + a1), true))) else (some (([] : List (S26)), 0, 0, 0, false))) = some (r1, r2, r3, r4, r5) := H
  have A5 := Aside0.mk A50
  clear A50
  by_cases c6 : t300 = true
  ·
   subst c6
   rw [if_pos rfl] at H
   replace H := Option.bind_eq_some_iff.mp H
   obtain ⟨⟨t301, t304, t305, t306⟩, A70, H⟩ := H
   replace H : (some (t301, t304, t305, wrap64 (t306 + a1), true)) = some (r1, r2, r3, r4, r5) := H
   have A7 := Aside0.mk A70
   clear A70
   simp only [Option.some.injEq, Prod.mk.injEq] at H
   obtain ⟨rfl, rfl, rfl, rfl, rfl⟩ := H
   go_enter Tryd.func39, Tryd.ntmps39
   go_wp2_with (first | ((with_reducible refine gate_dst (N := 2) rfl ?_); refine box_event ?hg (N := 2) ?hd (cs := #[.slice A0_0 l0_0.length c0_0, .int .i64 a0_1, .int .i64 a0_2, .int .i64 a0_3]) (t := 36) ?hr ?_; (case hd => rfl); (case hg => rfl); (case hr => first | (go_simp; done) | (go_simp; rfl)); intro gb297 hg w8 hbox hb; have BK297 := Aside0.mk (hbox); have GW297 := Aside0.mk ((by rw [hg]; exact (below_size (bs HB)) : w.heap.size ≤ gb297)); have GE297 := Aside0.mk ((by rw [hg]; exact (below_size (bs HB)) : w.heap.size ≤ gb297)); replace HB := Aside0.mk (below_step (bs HB) hb); clear hb hbox hg) | ((with_reducible refine gate_dst (N := 4) rfl ?_); refine box_event ?hg (N := 4) ?hd (cs := #[.slice none 0 0, .int .i64 0, .int .i64 0, .int .i64 0]) (t := 36) ?hr ?_; (case hd => rfl); (case hg => rfl); (case hr => first | (go_simp; done) | (go_simp; rfl)); intro gb298 hg w9 hbox hb; have BK298 := Aside0.mk (hbox); have GW298 := Aside0.mk ((by rw [hg]; exact (below_size (bs1 HB GE297)) : w.heap.size ≤ gb298)); have GE298 := Aside0.mk ((by rw [hg]; exact (below_size (bs1 HB GE297)) : w.heap.size ≤ gb298)); replace HB := Aside0.mk (below_step (bs1 HB GE297) hb); have NB297_298 := Aside0.mk ((bn BK297 hg : gb297 ≠ gb298)); have NB298_297 := Aside0.mk ((bm BK297 hg : gb298 ≠ gb297)); replace BK297 := nb BK297 hb; clear hb hbox hg; have hnb10 := NB297_298.out; have hnc10 := NB298_297.out; obtain ⟨hcz11_0, hcz11_1, hcz11_2, hcz11_3⟩ := cz4 BK297; obtain ⟨hfz11_0, hfz11_1, hfz11_2, hfz11_3⟩ := fz4 BK297) | ((with_reducible refine gate_callee (f := 20) rfl ?_); refine gL (some 8) rfl rfl Tryd.func20 (by kernel_rfl) rfl #[.agg #[.slice A0_0 l0_0.length c0_0, .int .i64 a0_1, .int .i64 a0_2, .int .i64 a0_3]] rfl ?_; (with_reducible refine (impl_GoodRing.calls k _ _ l0_0 a0_1 a0_2 a0_3 true _ ?sideT ?side1 ?side2 A3.out).mono ?_); (case sideT => refine ⟨Ito.tabB hTab_.out ?_⟩; first | exact bs HB | exact st_below | (repeat (first | (with_reducible first | exact HB.out | apply below_alloc | apply pw_below_drewN | apply below_drew1 | refine below_set ?_ (Aside0.out (by assumption))) | exact HB.out))); (case side1 => exact cb HR0_0 HB); (case side2 => exact HC0_0.out); rintro e w12 ⟨rfl, hb⟩; refine ⟨_, rfl, ?_⟩; replace BK297 := nb BK297 hb; replace BK298 := nb BK298 hb; replace HB := Aside0.mk (below_step (bs2 HB GE297 GE298) hb); (try clear hb); (try clear hb2); (try clear hk); (try clear hi); obtain ⟨hcz13_0, hcz13_1, hcz13_2, hcz13_3⟩ := cz4 BK297; obtain ⟨hfz13_0, hfz13_1, hfz13_2, hfz13_3⟩ := fz4 BK297) | (go_at_call 58; (with_reducible refine (impl_within.calls a1 0 (wrap64 (a0_1 - a0_3)) true _ A5.out).mono ?_); rintro e w' ⟨rfl, ⟨nd, rfl⟩⟩; (try (rw [drewN_self w12]; generalize hq_ : World.drewN w12 _ = w12; have n0_ : Aside0 (w12.heap[gb297]? = some (.cells #[.slice A0_0 l0_0.length c0_0, .int .i64 a0_1, .int .i64 a0_2, .int .i64 a0_3] 36 (0, 0))) := ⟨by rw [← hq_]; exact (bk BK297)⟩; have n1_ : Aside0 (w12.heap[gb298]? = some (.cells #[.slice none 0 0, .int .i64 0, .int .i64 0, .int .i64 0] 36 (0, 0))) := ⟨by rw [← hq_]; exact (bk BK298)⟩; have n2_ : Aside0 (Below w.heap.size w w12) := ⟨by rw [← hq_]; exact (bs2 HB GE297 GE298)⟩; clear BK297 BK298 HB hq_; have BK297 := n0_; have BK298 := n1_; have HB := n2_; clear n0_ n1_ n2_)); obtain ⟨hcz14_0, hcz14_1, hcz14_2, hcz14_3⟩ := cz4 BK297; obtain ⟨hfz14_0, hfz14_1, hfz14_2, hfz14_3⟩ := fz4 BK297) | ((with_reducible refine gate_callee (f := 67) rfl ?_); refine gL (some 22) rfl rfl Tryd.func67 (by kernel_rfl) rfl #[.agg #[.slice A0_0 l0_0.length c0_0, .int .i64 a0_1, .int .i64 a0_2, .int .i64 a0_3]] rfl ?_; (with_reducible refine (impl_ownRing.calls _ _ l0_0 a0_1 a0_2 a0_3 t301 t304 t305 t306 _ ?side1 ?side2 A7.out).mono ?_); (case side1 => exact cb HR0_0 HB); (case side2 => exact HC0_0.out); rintro e w15 ⟨v302, rfl, ho0, hb⟩; refine ⟨_, rfl, ?_⟩; have HO303 := Aside0.mk (Kd.R_lower ho0 (below_size (bs2 HB GE297 GE298))); replace BK297 := nb BK297 hb; replace BK298 := nb BK298 hb; replace HB := Aside0.mk (below_step (bs2 HB GE297 GE298) hb); (try clear hb); (try clear hb2); (try clear hk); (try clear hi); (try clear ho0)) | ((with_reducible refine gate_dst (N := 6) rfl ?_); refine box_event ?hg (N := 6) ?hd (cs := #[.slice none 0 0, .int .i64 0, .int .i64 0, .int .i64 0]) (t := 36) ?hr ?_; (case hd => rfl); (case hg => rfl); (case hr => first | (go_simp; done) | (go_simp; rfl)); intro gb307 hg w16 hbox hb; replace HO303 := nr HO303 hb; have BK307 := Aside0.mk (hbox); have GW307 := Aside0.mk ((by rw [hg]; exact (below_size (bs2 HB GE297 GE298)) : w.heap.size ≤ gb307)); have GE307 := Aside0.mk ((by rw [hg]; exact (below_size (bs2 HB GE297 GE298)) : w.heap.size ≤ gb307)); replace HB := Aside0.mk (below_step (bs2 HB GE297 GE298) hb); have NB297_307 := Aside0.mk ((bn BK297 hg : gb297 ≠ gb307)); have NB307_297 := Aside0.mk ((bm BK297 hg : gb307 ≠ gb297)); replace BK297 := nb BK297 hb; have NB298_307 := Aside0.mk ((bn BK298 hg : gb298 ≠ gb307)); have NB307_298 := Aside0.mk ((bm BK298 hg : gb307 ≠ gb298)); replace BK298 := nb BK298 hb; clear hb hbox hg; obtain ⟨Ao17, co17, eo17⟩ := Kd.R_slice HO303.out; subst eo17; have hnb18 := NB307_297.out; have hnc18 := NB297_307.out; have hnb19 := NB307_298.out; have hnc19 := NB298_307.out; obtain ⟨hcz20_0, hcz20_1, hcz20_2, hcz20_3⟩ := cz4 BK307; obtain ⟨hfz20_0, hfz20_1, hfz20_2, hfz20_3⟩ := fz4 BK307; obtain ⟨hcz21_0, hcz21_1, hcz21_2, hcz21_3⟩ := cz4 BK298; obtain ⟨hfz21_0, hfz21_1, hfz21_2, hfz21_3⟩ := fz4 BK298))
   refine bodyPost_ret (results_ct rfl _ _ gb298 36 #[.slice Ao17 t301.length co17, .int .i64 t304, .int .i64 t305, .int .i64 (wrap64 (t306 + a1))] (0, 0) _ rfl (by (with_reducible repeat (first | refine blk_drewN ?_ _ | refine blk_drew ?_ | refine blk_alloc ?_ _)); refine blk_put (cs := #[.slice Ao17 t301.length co17, .int .i64 t304, .int .i64 t305, .int .i64 0]) ?_ 3 _ rfl; (with_reducible repeat (first | refine blk_drewN ?_ _ | refine blk_drew ?_ | refine blk_alloc ?_ _)); refine blk_put (cs := #[.slice Ao17 t301.length co17, .int .i64 t304, .int .i64 0, .int .i64 0]) ?_ 2 _ rfl; (with_reducible repeat (first | refine blk_drewN ?_ _ | refine blk_drew ?_ | refine blk_alloc ?_ _)); refine blk_put (cs := #[.slice Ao17 t301.length co17, .int .i64 0, .int .i64 0, .int .i64 0]) ?_ 1 _ rfl; (with_reducible repeat (first | refine blk_drewN ?_ _ | refine blk_drew ?_ | refine blk_alloc ?_ _)); refine blk_put (cs := #[.slice none 0 0, .int .i64 0, .int .i64 0, .int .i64 0]) ?_ 0 _ rfl; (with_reducible repeat (first | refine blk_drewN ?_ _ | refine blk_drew ?_ | refine blk_alloc ?_ _)); refine blk_far ?_ NB298_307.out _; (with_reducible repeat (first | refine blk_drewN ?_ _ | refine blk_drew ?_ | refine blk_alloc ?_ _)); refine blk_far ?_ NB298_307.out _; (with_reducible repeat (first | refine blk_drewN ?_ _ | refine blk_drew ?_ | refine blk_alloc ?_ _)); refine blk_far ?_ NB298_307.out _; (with_reducible repeat (first | refine blk_drewN ?_ _ | refine blk_drew ?_ | refine blk_alloc ?_ _)); refine blk_far ?_ NB298_307.out _; (with_reducible repeat (first | refine blk_drewN ?_ _ | refine blk_drew ?_ | refine blk_alloc ?_ _)); refine blk_far ?_ NB298_307.out _; (with_reducible repeat (first | refine blk_drewN ?_ _ | refine blk_drew ?_ | refine blk_alloc ?_ _)); exact BK298.out) Tryd.underlying36 rfl (by kernel_rfl)) rfl ?_
   exact ⟨_, by first | rfl | (simp [errW_none, errW_some] <;> rfl) | (simp [*, errW_none, errW_some] <;> rfl), by (with_reducible repeat (first | apply Kd.R_alloc | apply Kd.R_drewN | apply Kd.R_drew)); exact Kd.R_mono (Kd.R_far (p := ⟨gb298, 3, none⟩) (Kd.R_far (p := ⟨gb298, 2, none⟩) (Kd.R_far (p := ⟨gb298, 1, none⟩) (Kd.R_far (p := ⟨gb298, 0, none⟩) (Kd.R_far (p := ⟨gb307, 3, none⟩) (Kd.R_far (p := ⟨gb307, 3, none⟩) (Kd.R_far (p := ⟨gb307, 2, none⟩) (Kd.R_far (p := ⟨gb307, 1, none⟩) (Kd.R_far (p := ⟨gb307, 0, none⟩) (Kd.R_types (Kd.R_types HO303.out BK307.out (by decide)) BK298.out (by decide)) (fun _ hk => hk.1.2) (.slice Ao17 t301.length co17)) (fun _ hk => hk.1.2) (.int .i64 t304)) (fun _ hk => hk.1.2) (.int .i64 t305)) (fun _ hk => hk.1.2) (.int .i64 t306)) (fun _ hk => hk.1.2) (.int .i64 (wrap64 (t306 + a1)))) (fun _ hk => hk.2) (.slice Ao17 t301.length co17)) (fun _ hk => hk.2) (.int .i64 t304)) (fun _ hk => hk.2) (.int .i64 t305)) (fun _ hk => hk.2) (.int .i64 (wrap64 (t306 + a1)))) (fun _ hk => trivial), bs3 HB GE297 GE298 GE307⟩
  ·
   replace c6 := Bool.eq_false_iff.mpr c6
   subst c6
   rw [if_neg (show ¬ (false = true) by decide)] at H
   simp only [Option.some.injEq, Prod.mk.injEq] at H
   obtain ⟨rfl, rfl, rfl, rfl, rfl⟩ := H
   go_enter Tryd.func39, Tryd.ntmps39
   go_wp2_with (first | ((with_reducible refine gate_dst (N := 2) rfl ?_); refine box_event ?hg (N := 2) ?hd (cs := #[.slice A0_0 l0_0.length c0_0, .int .i64 a0_1, .int .i64 a0_2, .int .i64 a0_3]) (t := 36) ?hr ?_; (case hd => rfl); (case hg => rfl); (case hr => first | (go_simp; done) | (go_simp; rfl)); intro gb297 hg w22 hbox hb; have BK297 := Aside0.mk (hbox); have GW297 := Aside0.mk ((by rw [hg]; exact (below_size (bs HB)) : w.heap.size ≤ gb297)); have GE297 := Aside0.mk ((by rw [hg]; exact (below_size (bs HB)) : w.heap.size ≤ gb297)); replace HB := Aside0.mk (below_step (bs HB) hb); clear hb hbox hg) | ((with_reducible refine gate_dst (N := 4) rfl ?_); refine box_event ?hg (N := 4) ?hd (cs := #[.slice none 0 0, .int .i64 0, .int .i64 0, .int .i64 0]) (t := 36) ?hr ?_; (case hd => rfl); (case hg => rfl); (case hr => first | (go_simp; done) | (go_simp; rfl)); intro gb298 hg w23 hbox hb; have BK298 := Aside0.mk (hbox); have GW298 := Aside0.mk ((by rw [hg]; exact (below_size (bs1 HB GE297)) : w.heap.size ≤ gb298)); have GE298 := Aside0.mk ((by rw [hg]; exact (below_size (bs1 HB GE297)) : w.heap.size ≤ gb298)); replace HB := Aside0.mk (below_step (bs1 HB GE297) hb); have NB297_298 := Aside0.mk ((bn BK297 hg : gb297 ≠ gb298)); have NB298_297 := Aside0.mk ((bm BK297 hg : gb298 ≠ gb297)); replace BK297 := nb BK297 hb; clear hb hbox hg; have hnb24 := NB297_298.out; have hnc24 := NB298_297.out; obtain ⟨hcz25_0, hcz25_1, hcz25_2, hcz25_3⟩ := cz4 BK297; obtain ⟨hfz25_0, hfz25_1, hfz25_2, hfz25_3⟩ := fz4 BK297) | ((with_reducible refine gate_callee (f := 20) rfl ?_); refine gL (some 8) rfl rfl Tryd.func20 (by kernel_rfl) rfl #[.agg #[.slice A0_0 l0_0.length c0_0, .int .i64 a0_1, .int .i64 a0_2, .int .i64 a0_3]] rfl ?_; (with_reducible refine (impl_GoodRing.calls k _ _ l0_0 a0_1 a0_2 a0_3 true _ ?sideT ?side1 ?side2 A3.out).mono ?_); (case sideT => refine ⟨Ito.tabB hTab_.out ?_⟩; first | exact bs HB | exact st_below | (repeat (first | (with_reducible first | exact HB.out | apply below_alloc | apply pw_below_drewN | apply below_drew1 | refine below_set ?_ (Aside0.out (by assumption))) | exact HB.out))); (case side1 => exact cb HR0_0 HB); (case side2 => exact HC0_0.out); rintro e w26 ⟨rfl, hb⟩; refine ⟨_, rfl, ?_⟩; replace BK297 := nb BK297 hb; replace BK298 := nb BK298 hb; replace HB := Aside0.mk (below_step (bs2 HB GE297 GE298) hb); (try clear hb); (try clear hb2); (try clear hk); (try clear hi); obtain ⟨hcz27_0, hcz27_1, hcz27_2, hcz27_3⟩ := cz4 BK297; obtain ⟨hfz27_0, hfz27_1, hfz27_2, hfz27_3⟩ := fz4 BK297) | (go_at_call 58; (with_reducible refine (impl_within.calls a1 0 (wrap64 (a0_1 - a0_3)) false _ A5.out).mono ?_); rintro e w' ⟨rfl, ⟨nd, rfl⟩⟩; (try (rw [drewN_self w26]; generalize hq_ : World.drewN w26 _ = w26; have n0_ : Aside0 (w26.heap[gb297]? = some (.cells #[.slice A0_0 l0_0.length c0_0, .int .i64 a0_1, .int .i64 a0_2, .int .i64 a0_3] 36 (0, 0))) := ⟨by rw [← hq_]; exact (bk BK297)⟩; have n1_ : Aside0 (w26.heap[gb298]? = some (.cells #[.slice none 0 0, .int .i64 0, .int .i64 0, .int .i64 0] 36 (0, 0))) := ⟨by rw [← hq_]; exact (bk BK298)⟩; have n2_ : Aside0 (Below w.heap.size w w26) := ⟨by rw [← hq_]; exact (bs2 HB GE297 GE298)⟩; clear BK297 BK298 HB hq_; have BK297 := n0_; have BK298 := n1_; have HB := n2_; clear n0_ n1_ n2_)); obtain ⟨hcz28_0, hcz28_1, hcz28_2, hcz28_3⟩ := cz4 BK298; obtain ⟨hfz28_0, hfz28_1, hfz28_2, hfz28_3⟩ := fz4 BK298))
   refine bodyPost_ret (results_ct rfl _ _ gb298 36 #[.slice none 0 0, .int .i64 0, .int .i64 0, .int .i64 0] (0, 0) _ rfl (by (with_reducible repeat (first | refine blk_drewN ?_ _ | refine blk_drew ?_ | refine blk_alloc ?_ _)); refine blk_put (cs := #[.slice none 0 0, .int .i64 0, .int .i64 0, .int .i64 0]) ?_ 3 _ rfl; (with_reducible repeat (first | refine blk_drewN ?_ _ | refine blk_drew ?_ | refine blk_alloc ?_ _)); refine blk_put (cs := #[.slice none 0 0, .int .i64 0, .int .i64 0, .int .i64 0]) ?_ 2 _ rfl; (with_reducible repeat (first | refine blk_drewN ?_ _ | refine blk_drew ?_ | refine blk_alloc ?_ _)); refine blk_put (cs := #[.slice none 0 0, .int .i64 0, .int .i64 0, .int .i64 0]) ?_ 1 _ rfl; (with_reducible repeat (first | refine blk_drewN ?_ _ | refine blk_drew ?_ | refine blk_alloc ?_ _)); refine blk_put (cs := #[.slice none 0 0, .int .i64 0, .int .i64 0, .int .i64 0]) ?_ 0 _ rfl; (with_reducible repeat (first | refine blk_drewN ?_ _ | refine blk_drew ?_ | refine blk_alloc ?_ _)); exact BK298.out) Tryd.underlying36 rfl (by kernel_rfl)) rfl ?_
   exact ⟨_, by first | rfl | (simp [errW_none, errW_some] <;> rfl) | (simp [*, errW_none, errW_some] <;> rfl), by first | exact Kd.R_nil _ _ _ _ _ | exact Kd.N_nil _ _ _ _ _ | exact Kd.V_nil _ _ _ _ _ | exact Kd.Q_nil _ _ _ _ _ | exact Kd.S_nil _ _ _ _ _, bs2 HB GE297 GE298⟩
 ·
  replace c4 := Bool.eq_false_iff.mpr c4
  subst c4
  rw [if_neg (show ¬ (false = true) by decide)] at H
  simp only [Option.some.injEq, Prod.mk.injEq] at H
  obtain ⟨rfl, rfl, rfl, rfl, rfl⟩ := H
  go_enter Tryd.func39, Tryd.ntmps39
  go_wp2_with (first | ((with_reducible refine gate_dst (N := 2) rfl ?_); refine box_event ?hg (N := 2) ?hd (cs := #[.slice A0_0 l0_0.length c0_0, .int .i64 a0_1, .int .i64 a0_2, .int .i64 a0_3]) (t := 36) ?hr ?_; (case hd => rfl); (case hg => rfl); (case hr => first | (go_simp; done) | (go_simp; rfl)); intro gb297 hg w29 hbox hb; have BK297 := Aside0.mk (hbox); have GW297 := Aside0.mk ((by rw [hg]; exact (below_size (bs HB)) : w.heap.size ≤ gb297)); have GE297 := Aside0.mk ((by rw [hg]; exact (below_size (bs HB)) : w.heap.size ≤ gb297)); replace HB := Aside0.mk (below_step (bs HB) hb); clear hb hbox hg) | ((with_reducible refine gate_dst (N := 4) rfl ?_); refine box_event ?hg (N := 4) ?hd (cs := #[.slice none 0 0, .int .i64 0, .int .i64 0, .int .i64 0]) (t := 36) ?hr ?_; (case hd => rfl); (case hg => rfl); (case hr => first | (go_simp; done) | (go_simp; rfl)); intro gb298 hg w30 hbox hb; have BK298 := Aside0.mk (hbox); have GW298 := Aside0.mk ((by rw [hg]; exact (below_size (bs1 HB GE297)) : w.heap.size ≤ gb298)); have GE298 := Aside0.mk ((by rw [hg]; exact (below_size (bs1 HB GE297)) : w.heap.size ≤ gb298)); replace HB := Aside0.mk (below_step (bs1 HB GE297) hb); have NB297_298 := Aside0.mk ((bn BK297 hg : gb297 ≠ gb298)); have NB298_297 := Aside0.mk ((bm BK297 hg : gb298 ≠ gb297)); replace BK297 := nb BK297 hb; clear hb hbox hg; have hnb31 := NB297_298.out; have hnc31 := NB298_297.out; obtain ⟨hcz32_0, hcz32_1, hcz32_2, hcz32_3⟩ := cz4 BK297; obtain ⟨hfz32_0, hfz32_1, hfz32_2, hfz32_3⟩ := fz4 BK297) | ((with_reducible refine gate_callee (f := 20) rfl ?_); refine gL (some 8) rfl rfl Tryd.func20 (by kernel_rfl) rfl #[.agg #[.slice A0_0 l0_0.length c0_0, .int .i64 a0_1, .int .i64 a0_2, .int .i64 a0_3]] rfl ?_; (with_reducible refine (impl_GoodRing.calls k _ _ l0_0 a0_1 a0_2 a0_3 false _ ?sideT ?side1 ?side2 A3.out).mono ?_); (case sideT => refine ⟨Ito.tabB hTab_.out ?_⟩; first | exact bs HB | exact st_below | (repeat (first | (with_reducible first | exact HB.out | apply below_alloc | apply pw_below_drewN | apply below_drew1 | refine below_set ?_ (Aside0.out (by assumption))) | exact HB.out))); (case side1 => exact cb HR0_0 HB); (case side2 => exact HC0_0.out); rintro e w33 ⟨rfl, hb⟩; refine ⟨_, rfl, ?_⟩; replace BK297 := nb BK297 hb; replace BK298 := nb BK298 hb; replace HB := Aside0.mk (below_step (bs2 HB GE297 GE298) hb); (try clear hb); (try clear hb2); (try clear hk); (try clear hi); obtain ⟨hcz34_0, hcz34_1, hcz34_2, hcz34_3⟩ := cz4 BK298; obtain ⟨hfz34_0, hfz34_1, hfz34_2, hfz34_3⟩ := fz4 BK298))
  refine bodyPost_ret (results_ct rfl _ _ gb298 36 #[.slice none 0 0, .int .i64 0, .int .i64 0, .int .i64 0] (0, 0) _ rfl (by (with_reducible repeat (first | refine blk_drewN ?_ _ | refine blk_drew ?_ | refine blk_alloc ?_ _)); refine blk_put (cs := #[.slice none 0 0, .int .i64 0, .int .i64 0, .int .i64 0]) ?_ 3 _ rfl; (with_reducible repeat (first | refine blk_drewN ?_ _ | refine blk_drew ?_ | refine blk_alloc ?_ _)); refine blk_put (cs := #[.slice none 0 0, .int .i64 0, .int .i64 0, .int .i64 0]) ?_ 2 _ rfl; (with_reducible repeat (first | refine blk_drewN ?_ _ | refine blk_drew ?_ | refine blk_alloc ?_ _)); refine blk_put (cs := #[.slice none 0 0, .int .i64 0, .int .i64 0, .int .i64 0]) ?_ 1 _ rfl; (with_reducible repeat (first | refine blk_drewN ?_ _ | refine blk_drew ?_ | refine blk_alloc ?_ _)); refine blk_put (cs := #[.slice none 0 0, .int .i64 0, .int .i64 0, .int .i64 0]) ?_ 0 _ rfl; (with_reducible repeat (first | refine blk_drewN ?_ _ | refine blk_drew ?_ | refine blk_alloc ?_ _)); exact BK298.out) Tryd.underlying36 rfl (by kernel_rfl)) rfl ?_
  exact ⟨_, by first | rfl | (simp [errW_none, errW_some] <;> rfl) | (simp [*, errW_none, errW_some] <;> rfl), by first | exact Kd.R_nil _ _ _ _ _ | exact Kd.N_nil _ _ _ _ _ | exact Kd.V_nil _ _ _ _ _ | exact Kd.Q_nil _ _ _ _ _ | exact Kd.S_nil _ _ _ _ _, bs2 HB GE297 GE298⟩

/-! ### spec_PushTail: function 40 -/
def spec_PushTail.f (k : Nat) (l0_0 : List (S26)) (a0_1 : Int) (a0_2 : Int) (a0_3 : Int) (a1 : Int) : Option ((List (S26)) × Int × Int × Int × Bool) := (spec_GoodRing.f k l0_0 a0_1 a0_2 a0_3).bind fun t318 => (if t318 = true then ((spec_l1In.f a1 0 (wrap64 (a0_1 - a0_3))).bind fun t319 => (if t319 = true then ((spec_l10Own.f l0_0 a0_1 a0_2 a0_3).bind fun bt320 => (some (bt320.1, bt320.2.1, bt320.2.2.1, wrap64 (bt320.2.2.2 + a1), true))) else (some (([] : List (S26)), 0, 0, 0, false)))) else (some (([] : List (S26)), 0, 0, 0, false)))
theorem spec_PushTail.mono : ∀ a0 a1 a2 a3 a4 k, LeO (spec_PushTail.f k a0 a1 a2 a3 a4) (spec_PushTail.f (k + 1) a0 a1 a2 a3 a4) := by
 intro a0 a1 a2 a3 a4 k
 unfold spec_PushTail.f
 repeat' first
   | (with_reducible exact spec_GoodRing.mono _ _ _ _ _)
   | (with_reducible exact LeO.refl _)
   | (with_reducible exact LeO.none _)
   | (with_reducible refine LeO.ite ?_ ?_)
   | (with_reducible refine LeO.bind ?_ (fun _ => ?_))
   | exact spec_GoodRing.mono _ _ _ _ _
   | exact LeO.none _
   | refine LeO.ite ?_ ?_
   | refine LeO.bind ?_ (fun _ => ?_)
set_option maxHeartbeats 8000000 in
set_option maxRecDepth 100000 in
theorem spec_PushTail.calls (k : Nat) (A0_0 : Option Addr) (c0_0 : Nat) (l0_0 : List (S26)) (a0_1 : Int) (a0_2 : Int) (a0_3 : Int) (a1 : Int) (r1 : List (S26)) (r2 : Int) (r3 : Int) (r4 : Int) (r5 : Bool) (w : World) (hr0_0 : Kd.C k26 w A0_0 l0_0.length l0_0) (hc0_0 : l0_0.length ≤ c0_0) (h : spec_PushTail.f k l0_0 a0_1 a0_2 a0_3 a1 = some (r1, r2, r3, r4, r5)) :
  Calls Tryd.prog 40 #[.agg #[.slice A0_0 l0_0.length c0_0, .int .i64 a0_1, .int .i64 a0_2, .int .i64 a0_3], .int .i64 a1] w fun e w' => ∃ v0_ : Value, e = .returned (.tuple #[.agg #[v0_, .int .i64 r2, .int .i64 r3, .int .i64 r4], .bool r5]) ∧ Kd.R k26 26 w' w.heap.size (fun _ => True) v0_ r1 ∧ Below w.heap.size w w' := by
 have hu36 := Tryd.underlying36
 have HR0_0 := Aside0.mk hr0_0
 have HC0_0 := Aside0.mk hc0_0
 clear hr0_0 hc0_0
 have HB := Aside0.mk (Below.refl w.heap.size w)
 have H : ((spec_GoodRing.f k l0_0 a0_1 a0_2 a0_3).bind fun t318 => (if t318 = true then ((spec_l1In.f a1 0 (wrap64 (a0_1 - a0_3))).bind fun t319 => (if t319 = true then ((spec_l10Own.f l0_0 a0_1 a0_2 a0_3).bind fun bt320 => (some (bt320.1, bt320.2.1, bt320.2.2.1, wrap64 (bt320.2.2.2 + a1), true))) else (some (([] : List (S26)), 0, 0, 0, false)))) else (some (([] : List (S26)), 0, 0, 0, false)))) = some (r1, r2, r3, r4, r5) := h
 clear h
 replace H := Option.bind_eq_some_iff.mp H
 obtain ⟨t318, A30, H⟩ := H
 replace H : (if t318 = true then ((spec_l1In.f a1 0 (wrap64 (a0_1 - a0_3))).bind fun t319 => (if t319 = true then ((spec_l10Own.f l0_0 a0_1 a0_2 a0_3).bind fun bt320 => (some (bt320.1, bt320.2.1, bt320.2.2.1, wrap64 (bt320.2.2.2 + a1), true))) else (some (([] : List (S26)), 0, 0, 0, false)))) else (some (([] : List (S26)), 0, 0, 0, false))) = some (r1, r2, r3, r4, r5) := H
 have A3 := Aside0.mk A30
 clear A30
 by_cases c4 : t318 = true
 ·
  subst c4
  rw [if_pos rfl] at H
  replace H := Option.bind_eq_some_iff.mp H
  obtain ⟨t319, A50, H⟩ := H
  replace H : (if t319 = true then ((spec_l10Own.f l0_0 a0_1 a0_2 a0_3).bind fun bt320 => (some (bt320.1, bt320.2.1, bt320.2.2.1, wrap64 (bt320.2.2.2 + a1), true))) else (some (([] : List (S26)), 0, 0, 0, false))) = some (r1, r2, r3, r4, r5) := H
  have A5 := Aside0.mk A50
  clear A50
  by_cases c6 : t319 = true
  ·
   subst c6
   rw [if_pos rfl] at H
   replace H := Option.bind_eq_some_iff.mp H
   obtain ⟨⟨t320, t323, t324, t325⟩, A70, H⟩ := H
   replace H : (some (t320, t323, t324, wrap64 (t325 + a1), true)) = some (r1, r2, r3, r4, r5) := H
   have A7 := Aside0.mk A70
   clear A70
   simp only [Option.some.injEq, Prod.mk.injEq] at H
   obtain ⟨rfl, rfl, rfl, rfl, rfl⟩ := H
   go_enter Tryd.func40, Tryd.ntmps40
   go_wp2_with (first | ((with_reducible refine gate_dst (N := 2) rfl ?_); refine box_event ?hg (N := 2) ?hd (cs := #[.slice A0_0 l0_0.length c0_0, .int .i64 a0_1, .int .i64 a0_2, .int .i64 a0_3]) (t := 36) ?hr ?_; (case hd => rfl); (case hg => rfl); (case hr => first | (go_simp; done) | (go_simp; rfl)); intro gb316 hg w8 hbox hb; have BK316 := Aside0.mk (hbox); have GW316 := Aside0.mk ((by rw [hg]; exact (below_size (bs HB)) : w.heap.size ≤ gb316)); have GE316 := Aside0.mk ((by rw [hg]; exact (below_size (bs HB)) : w.heap.size ≤ gb316)); replace HB := Aside0.mk (below_step (bs HB) hb); clear hb hbox hg) | ((with_reducible refine gate_dst (N := 4) rfl ?_); refine box_event ?hg (N := 4) ?hd (cs := #[.slice none 0 0, .int .i64 0, .int .i64 0, .int .i64 0]) (t := 36) ?hr ?_; (case hd => rfl); (case hg => rfl); (case hr => first | (go_simp; done) | (go_simp; rfl)); intro gb317 hg w9 hbox hb; have BK317 := Aside0.mk (hbox); have GW317 := Aside0.mk ((by rw [hg]; exact (below_size (bs1 HB GE316)) : w.heap.size ≤ gb317)); have GE317 := Aside0.mk ((by rw [hg]; exact (below_size (bs1 HB GE316)) : w.heap.size ≤ gb317)); replace HB := Aside0.mk (below_step (bs1 HB GE316) hb); have NB316_317 := Aside0.mk ((bn BK316 hg : gb316 ≠ gb317)); have NB317_316 := Aside0.mk ((bm BK316 hg : gb317 ≠ gb316)); replace BK316 := nb BK316 hb; clear hb hbox hg; have hnb10 := NB316_317.out; have hnc10 := NB317_316.out; obtain ⟨hcz11_0, hcz11_1, hcz11_2, hcz11_3⟩ := cz4 BK316; obtain ⟨hfz11_0, hfz11_1, hfz11_2, hfz11_3⟩ := fz4 BK316) | ((with_reducible refine gate_callee (f := 18) rfl ?_); refine gL (some 7) rfl rfl Tryd.func18 (by kernel_rfl) rfl #[.agg #[.slice A0_0 l0_0.length c0_0, .int .i64 a0_1, .int .i64 a0_2, .int .i64 a0_3]] rfl ?_; (with_reducible refine (spec_GoodRing.calls k _ _ l0_0 a0_1 a0_2 a0_3 true _ ?side1 ?side2 A3.out).mono ?_); (case side1 => exact cb HR0_0 HB); (case side2 => exact HC0_0.out); rintro e w12 ⟨rfl, hb⟩; refine ⟨_, rfl, ?_⟩; replace BK316 := nb BK316 hb; replace BK317 := nb BK317 hb; replace HB := Aside0.mk (below_step (bs2 HB GE316 GE317) hb); (try clear hb); (try clear hb2); (try clear hk); (try clear hi); obtain ⟨hcz13_0, hcz13_1, hcz13_2, hcz13_3⟩ := cz4 BK316; obtain ⟨hfz13_0, hfz13_1, hfz13_2, hfz13_3⟩ := fz4 BK316) | (go_at_call 55; (with_reducible refine (spec_l1In.calls a1 0 (wrap64 (a0_1 - a0_3)) true _ A5.out).mono ?_); rintro e w' ⟨rfl, ⟨nd, rfl⟩⟩; (try (rw [drewN_self w12]; generalize hq_ : World.drewN w12 _ = w12; have n0_ : Aside0 (w12.heap[gb316]? = some (.cells #[.slice A0_0 l0_0.length c0_0, .int .i64 a0_1, .int .i64 a0_2, .int .i64 a0_3] 36 (0, 0))) := ⟨by rw [← hq_]; exact (bk BK316)⟩; have n1_ : Aside0 (w12.heap[gb317]? = some (.cells #[.slice none 0 0, .int .i64 0, .int .i64 0, .int .i64 0] 36 (0, 0))) := ⟨by rw [← hq_]; exact (bk BK317)⟩; have n2_ : Aside0 (Below w.heap.size w w12) := ⟨by rw [← hq_]; exact (bs2 HB GE316 GE317)⟩; clear BK316 BK317 HB hq_; have BK316 := n0_; have BK317 := n1_; have HB := n2_; clear n0_ n1_ n2_)); obtain ⟨hcz14_0, hcz14_1, hcz14_2, hcz14_3⟩ := cz4 BK316; obtain ⟨hfz14_0, hfz14_1, hfz14_2, hfz14_3⟩ := fz4 BK316) | ((with_reducible refine gate_callee (f := 68) rfl ?_); refine gL (some 21) rfl rfl Tryd.func68 (by kernel_rfl) rfl #[.agg #[.slice A0_0 l0_0.length c0_0, .int .i64 a0_1, .int .i64 a0_2, .int .i64 a0_3]] rfl ?_; (with_reducible refine (spec_l10Own.calls _ _ l0_0 a0_1 a0_2 a0_3 t320 t323 t324 t325 _ ?side1 ?side2 A7.out).mono ?_); (case side1 => exact cb HR0_0 HB); (case side2 => exact HC0_0.out); rintro e w15 ⟨v321, rfl, ho0, hb⟩; refine ⟨_, rfl, ?_⟩; have HO322 := Aside0.mk (Kd.R_lower ho0 (below_size (bs2 HB GE316 GE317))); replace BK316 := nb BK316 hb; replace BK317 := nb BK317 hb; replace HB := Aside0.mk (below_step (bs2 HB GE316 GE317) hb); (try clear hb); (try clear hb2); (try clear hk); (try clear hi); (try clear ho0); obtain ⟨Ao16, co16, eo16⟩ := Kd.R_slice HO322.out; subst eo16; obtain ⟨hcz17_0, hcz17_1, hcz17_2, hcz17_3⟩ := cz4 BK316; obtain ⟨hfz17_0, hfz17_1, hfz17_2, hfz17_3⟩ := fz4 BK316; obtain ⟨hcz18_0, hcz18_1, hcz18_2, hcz18_3⟩ := cz4 BK317; obtain ⟨hfz18_0, hfz18_1, hfz18_2, hfz18_3⟩ := fz4 BK317))
   refine bodyPost_ret (results_ct rfl _ _ gb317 36 #[.slice Ao16 t320.length co16, .int .i64 t323, .int .i64 t324, .int .i64 (wrap64 (t325 + a1))] (0, 0) _ rfl (by (with_reducible repeat (first | refine blk_drewN ?_ _ | refine blk_drew ?_ | refine blk_alloc ?_ _)); refine blk_put (cs := #[.slice Ao16 t320.length co16, .int .i64 t323, .int .i64 t324, .int .i64 0]) ?_ 3 _ rfl; (with_reducible repeat (first | refine blk_drewN ?_ _ | refine blk_drew ?_ | refine blk_alloc ?_ _)); refine blk_put (cs := #[.slice Ao16 t320.length co16, .int .i64 t323, .int .i64 0, .int .i64 0]) ?_ 2 _ rfl; (with_reducible repeat (first | refine blk_drewN ?_ _ | refine blk_drew ?_ | refine blk_alloc ?_ _)); refine blk_put (cs := #[.slice Ao16 t320.length co16, .int .i64 0, .int .i64 0, .int .i64 0]) ?_ 1 _ rfl; (with_reducible repeat (first | refine blk_drewN ?_ _ | refine blk_drew ?_ | refine blk_alloc ?_ _)); refine blk_put (cs := #[.slice none 0 0, .int .i64 0, .int .i64 0, .int .i64 0]) ?_ 0 _ rfl; (with_reducible repeat (first | refine blk_drewN ?_ _ | refine blk_drew ?_ | refine blk_alloc ?_ _)); refine blk_far ?_ NB317_316.out _; (with_reducible repeat (first | refine blk_drewN ?_ _ | refine blk_drew ?_ | refine blk_alloc ?_ _)); refine blk_far ?_ NB317_316.out _; (with_reducible repeat (first | refine blk_drewN ?_ _ | refine blk_drew ?_ | refine blk_alloc ?_ _)); refine blk_far ?_ NB317_316.out _; (with_reducible repeat (first | refine blk_drewN ?_ _ | refine blk_drew ?_ | refine blk_alloc ?_ _)); refine blk_far ?_ NB317_316.out _; (with_reducible repeat (first | refine blk_drewN ?_ _ | refine blk_drew ?_ | refine blk_alloc ?_ _)); refine blk_far ?_ NB317_316.out _; (with_reducible repeat (first | refine blk_drewN ?_ _ | refine blk_drew ?_ | refine blk_alloc ?_ _)); exact BK317.out) Tryd.underlying36 rfl (by kernel_rfl)) rfl ?_
   exact ⟨_, by first | rfl | (simp [errW_none, errW_some] <;> rfl) | (simp [*, errW_none, errW_some] <;> rfl), by (with_reducible repeat (first | apply Kd.R_alloc | apply Kd.R_drewN | apply Kd.R_drew)); exact Kd.R_mono (Kd.R_far (p := ⟨gb317, 3, none⟩) (Kd.R_far (p := ⟨gb317, 2, none⟩) (Kd.R_far (p := ⟨gb317, 1, none⟩) (Kd.R_far (p := ⟨gb317, 0, none⟩) (Kd.R_far (p := ⟨gb316, 3, none⟩) (Kd.R_far (p := ⟨gb316, 3, none⟩) (Kd.R_far (p := ⟨gb316, 2, none⟩) (Kd.R_far (p := ⟨gb316, 1, none⟩) (Kd.R_far (p := ⟨gb316, 0, none⟩) (Kd.R_types (Kd.R_types HO322.out BK316.out (by decide)) BK317.out (by decide)) (fun _ hk => hk.1.2) (.slice Ao16 t320.length co16)) (fun _ hk => hk.1.2) (.int .i64 t323)) (fun _ hk => hk.1.2) (.int .i64 t324)) (fun _ hk => hk.1.2) (.int .i64 t325)) (fun _ hk => hk.1.2) (.int .i64 (wrap64 (t325 + a1)))) (fun _ hk => hk.2) (.slice Ao16 t320.length co16)) (fun _ hk => hk.2) (.int .i64 t323)) (fun _ hk => hk.2) (.int .i64 t324)) (fun _ hk => hk.2) (.int .i64 (wrap64 (t325 + a1)))) (fun _ hk => trivial), bs2 HB GE316 GE317⟩
  ·
   replace c6 := Bool.eq_false_iff.mpr c6
   subst c6
   rw [if_neg (show ¬ (false = true) by decide)] at H
   simp only [Option.some.injEq, Prod.mk.injEq] at H
   obtain ⟨rfl, rfl, rfl, rfl, rfl⟩ := H
   go_enter Tryd.func40, Tryd.ntmps40
   go_wp2_with (first | ((with_reducible refine gate_dst (N := 2) rfl ?_); refine box_event ?hg (N := 2) ?hd (cs := #[.slice A0_0 l0_0.length c0_0, .int .i64 a0_1, .int .i64 a0_2, .int .i64 a0_3]) (t := 36) ?hr ?_; (case hd => rfl); (case hg => rfl); (case hr => first | (go_simp; done) | (go_simp; rfl)); intro gb316 hg w19 hbox hb; have BK316 := Aside0.mk (hbox); have GW316 := Aside0.mk ((by rw [hg]; exact (below_size (bs HB)) : w.heap.size ≤ gb316)); have GE316 := Aside0.mk ((by rw [hg]; exact (below_size (bs HB)) : w.heap.size ≤ gb316)); replace HB := Aside0.mk (below_step (bs HB) hb); clear hb hbox hg) | ((with_reducible refine gate_dst (N := 4) rfl ?_); refine box_event ?hg (N := 4) ?hd (cs := #[.slice none 0 0, .int .i64 0, .int .i64 0, .int .i64 0]) (t := 36) ?hr ?_; (case hd => rfl); (case hg => rfl); (case hr => first | (go_simp; done) | (go_simp; rfl)); intro gb317 hg w20 hbox hb; have BK317 := Aside0.mk (hbox); have GW317 := Aside0.mk ((by rw [hg]; exact (below_size (bs1 HB GE316)) : w.heap.size ≤ gb317)); have GE317 := Aside0.mk ((by rw [hg]; exact (below_size (bs1 HB GE316)) : w.heap.size ≤ gb317)); replace HB := Aside0.mk (below_step (bs1 HB GE316) hb); have NB316_317 := Aside0.mk ((bn BK316 hg : gb316 ≠ gb317)); have NB317_316 := Aside0.mk ((bm BK316 hg : gb317 ≠ gb316)); replace BK316 := nb BK316 hb; clear hb hbox hg; have hnb21 := NB316_317.out; have hnc21 := NB317_316.out; obtain ⟨hcz22_0, hcz22_1, hcz22_2, hcz22_3⟩ := cz4 BK316; obtain ⟨hfz22_0, hfz22_1, hfz22_2, hfz22_3⟩ := fz4 BK316) | ((with_reducible refine gate_callee (f := 18) rfl ?_); refine gL (some 7) rfl rfl Tryd.func18 (by kernel_rfl) rfl #[.agg #[.slice A0_0 l0_0.length c0_0, .int .i64 a0_1, .int .i64 a0_2, .int .i64 a0_3]] rfl ?_; (with_reducible refine (spec_GoodRing.calls k _ _ l0_0 a0_1 a0_2 a0_3 true _ ?side1 ?side2 A3.out).mono ?_); (case side1 => exact cb HR0_0 HB); (case side2 => exact HC0_0.out); rintro e w23 ⟨rfl, hb⟩; refine ⟨_, rfl, ?_⟩; replace BK316 := nb BK316 hb; replace BK317 := nb BK317 hb; replace HB := Aside0.mk (below_step (bs2 HB GE316 GE317) hb); (try clear hb); (try clear hb2); (try clear hk); (try clear hi); obtain ⟨hcz24_0, hcz24_1, hcz24_2, hcz24_3⟩ := cz4 BK316; obtain ⟨hfz24_0, hfz24_1, hfz24_2, hfz24_3⟩ := fz4 BK316) | (go_at_call 55; (with_reducible refine (spec_l1In.calls a1 0 (wrap64 (a0_1 - a0_3)) false _ A5.out).mono ?_); rintro e w' ⟨rfl, ⟨nd, rfl⟩⟩; (try (rw [drewN_self w23]; generalize hq_ : World.drewN w23 _ = w23; have n0_ : Aside0 (w23.heap[gb316]? = some (.cells #[.slice A0_0 l0_0.length c0_0, .int .i64 a0_1, .int .i64 a0_2, .int .i64 a0_3] 36 (0, 0))) := ⟨by rw [← hq_]; exact (bk BK316)⟩; have n1_ : Aside0 (w23.heap[gb317]? = some (.cells #[.slice none 0 0, .int .i64 0, .int .i64 0, .int .i64 0] 36 (0, 0))) := ⟨by rw [← hq_]; exact (bk BK317)⟩; have n2_ : Aside0 (Below w.heap.size w w23) := ⟨by rw [← hq_]; exact (bs2 HB GE316 GE317)⟩; clear BK316 BK317 HB hq_; have BK316 := n0_; have BK317 := n1_; have HB := n2_; clear n0_ n1_ n2_)); obtain ⟨hcz25_0, hcz25_1, hcz25_2, hcz25_3⟩ := cz4 BK317; obtain ⟨hfz25_0, hfz25_1, hfz25_2, hfz25_3⟩ := fz4 BK317))
   refine bodyPost_ret (results_ct rfl _ _ gb317 36 #[.slice none 0 0, .int .i64 0, .int .i64 0, .int .i64 0] (0, 0) _ rfl (by (with_reducible repeat (first | refine blk_drewN ?_ _ | refine blk_drew ?_ | refine blk_alloc ?_ _)); refine blk_put (cs := #[.slice none 0 0, .int .i64 0, .int .i64 0, .int .i64 0]) ?_ 3 _ rfl; (with_reducible repeat (first | refine blk_drewN ?_ _ | refine blk_drew ?_ | refine blk_alloc ?_ _)); refine blk_put (cs := #[.slice none 0 0, .int .i64 0, .int .i64 0, .int .i64 0]) ?_ 2 _ rfl; (with_reducible repeat (first | refine blk_drewN ?_ _ | refine blk_drew ?_ | refine blk_alloc ?_ _)); refine blk_put (cs := #[.slice none 0 0, .int .i64 0, .int .i64 0, .int .i64 0]) ?_ 1 _ rfl; (with_reducible repeat (first | refine blk_drewN ?_ _ | refine blk_drew ?_ | refine blk_alloc ?_ _)); refine blk_put (cs := #[.slice none 0 0, .int .i64 0, .int .i64 0, .int .i64 0]) ?_ 0 _ rfl; (with_reducible repeat (first | refine blk_drewN ?_ _ | refine blk_drew ?_ | refine blk_alloc ?_ _)); exact BK317.out) Tryd.underlying36 rfl (by kernel_rfl)) rfl ?_
   exact ⟨_, by first | rfl | (simp [errW_none, errW_some] <;> rfl) | (simp [*, errW_none, errW_some] <;> rfl), by first | exact Kd.R_nil _ _ _ _ _ | exact Kd.N_nil _ _ _ _ _ | exact Kd.V_nil _ _ _ _ _ | exact Kd.Q_nil _ _ _ _ _ | exact Kd.S_nil _ _ _ _ _, bs2 HB GE316 GE317⟩
 ·
  replace c4 := Bool.eq_false_iff.mpr c4
  subst c4
  rw [if_neg (show ¬ (false = true) by decide)] at H
  simp only [Option.some.injEq, Prod.mk.injEq] at H
  obtain ⟨rfl, rfl, rfl, rfl, rfl⟩ := H
  go_enter Tryd.func40, Tryd.ntmps40
  go_wp2_with (first | ((with_reducible refine gate_dst (N := 2) rfl ?_); refine box_event ?hg (N := 2) ?hd (cs := #[.slice A0_0 l0_0.length c0_0, .int .i64 a0_1, .int .i64 a0_2, .int .i64 a0_3]) (t := 36) ?hr ?_; (case hd => rfl); (case hg => rfl); (case hr => first | (go_simp; done) | (go_simp; rfl)); intro gb316 hg w26 hbox hb; have BK316 := Aside0.mk (hbox); have GW316 := Aside0.mk ((by rw [hg]; exact (below_size (bs HB)) : w.heap.size ≤ gb316)); have GE316 := Aside0.mk ((by rw [hg]; exact (below_size (bs HB)) : w.heap.size ≤ gb316)); replace HB := Aside0.mk (below_step (bs HB) hb); clear hb hbox hg) | ((with_reducible refine gate_dst (N := 4) rfl ?_); refine box_event ?hg (N := 4) ?hd (cs := #[.slice none 0 0, .int .i64 0, .int .i64 0, .int .i64 0]) (t := 36) ?hr ?_; (case hd => rfl); (case hg => rfl); (case hr => first | (go_simp; done) | (go_simp; rfl)); intro gb317 hg w27 hbox hb; have BK317 := Aside0.mk (hbox); have GW317 := Aside0.mk ((by rw [hg]; exact (below_size (bs1 HB GE316)) : w.heap.size ≤ gb317)); have GE317 := Aside0.mk ((by rw [hg]; exact (below_size (bs1 HB GE316)) : w.heap.size ≤ gb317)); replace HB := Aside0.mk (below_step (bs1 HB GE316) hb); have NB316_317 := Aside0.mk ((bn BK316 hg : gb316 ≠ gb317)); have NB317_316 := Aside0.mk ((bm BK316 hg : gb317 ≠ gb316)); replace BK316 := nb BK316 hb; clear hb hbox hg; have hnb28 := NB316_317.out; have hnc28 := NB317_316.out; obtain ⟨hcz29_0, hcz29_1, hcz29_2, hcz29_3⟩ := cz4 BK316; obtain ⟨hfz29_0, hfz29_1, hfz29_2, hfz29_3⟩ := fz4 BK316) | ((with_reducible refine gate_callee (f := 18) rfl ?_); refine gL (some 7) rfl rfl Tryd.func18 (by kernel_rfl) rfl #[.agg #[.slice A0_0 l0_0.length c0_0, .int .i64 a0_1, .int .i64 a0_2, .int .i64 a0_3]] rfl ?_; (with_reducible refine (spec_GoodRing.calls k _ _ l0_0 a0_1 a0_2 a0_3 false _ ?side1 ?side2 A3.out).mono ?_); (case side1 => exact cb HR0_0 HB); (case side2 => exact HC0_0.out); rintro e w30 ⟨rfl, hb⟩; refine ⟨_, rfl, ?_⟩; replace BK316 := nb BK316 hb; replace BK317 := nb BK317 hb; replace HB := Aside0.mk (below_step (bs2 HB GE316 GE317) hb); (try clear hb); (try clear hb2); (try clear hk); (try clear hi); obtain ⟨hcz31_0, hcz31_1, hcz31_2, hcz31_3⟩ := cz4 BK317; obtain ⟨hfz31_0, hfz31_1, hfz31_2, hfz31_3⟩ := fz4 BK317))
  refine bodyPost_ret (results_ct rfl _ _ gb317 36 #[.slice none 0 0, .int .i64 0, .int .i64 0, .int .i64 0] (0, 0) _ rfl (by (with_reducible repeat (first | refine blk_drewN ?_ _ | refine blk_drew ?_ | refine blk_alloc ?_ _)); refine blk_put (cs := #[.slice none 0 0, .int .i64 0, .int .i64 0, .int .i64 0]) ?_ 3 _ rfl; (with_reducible repeat (first | refine blk_drewN ?_ _ | refine blk_drew ?_ | refine blk_alloc ?_ _)); refine blk_put (cs := #[.slice none 0 0, .int .i64 0, .int .i64 0, .int .i64 0]) ?_ 2 _ rfl; (with_reducible repeat (first | refine blk_drewN ?_ _ | refine blk_drew ?_ | refine blk_alloc ?_ _)); refine blk_put (cs := #[.slice none 0 0, .int .i64 0, .int .i64 0, .int .i64 0]) ?_ 1 _ rfl; (with_reducible repeat (first | refine blk_drewN ?_ _ | refine blk_drew ?_ | refine blk_alloc ?_ _)); refine blk_put (cs := #[.slice none 0 0, .int .i64 0, .int .i64 0, .int .i64 0]) ?_ 0 _ rfl; (with_reducible repeat (first | refine blk_drewN ?_ _ | refine blk_drew ?_ | refine blk_alloc ?_ _)); exact BK317.out) Tryd.underlying36 rfl (by kernel_rfl)) rfl ?_
  exact ⟨_, by first | rfl | (simp [errW_none, errW_some] <;> rfl) | (simp [*, errW_none, errW_some] <;> rfl), by first | exact Kd.R_nil _ _ _ _ _ | exact Kd.N_nil _ _ _ _ _ | exact Kd.V_nil _ _ _ _ _ | exact Kd.Q_nil _ _ _ _ _ | exact Kd.S_nil _ _ _ _ _, bs2 HB GE316 GE317⟩

/-! ### laws_FnExactPushTail: function 9 -/
mutual
def laws_FnExactPushTail.j0 : Nat → Int → Bool → Bool → Bool → List (S23) → Int → Int → Int → List (S26) → Int → Int → Int → List (S26) → Int → Int → Int → List (S26) → Int → Int → Int → Option (Bool)
 | 0, _, _, _, _, _, _, _, _, _, _, _, _, _, _, _, _, _, _, _, _ => none
 | k + 1, x1, x7, x10, x44, x327000, x327001, x327002, x327003, x342000, x342001, x342002, x342003, x349000, x349001, x349002, x349003, x357000, x357001, x357002, x357003 => if x44 = true then (some false) else ((laws_toRing.f k x327000 x327001 x327002 x327003).bind fun bt358 => ((laws_eqRing.f k x349000 x349001 x349002 x349003 bt358.1 bt358.2.1 bt358.2.2.1 bt358.2.2.2).bind fun t364 => (if t364 = true then ((laws_markRing.f k x349000 x349001 x349002 x349003 1).bind fun bt365 => (if bt365.1 < 0 then (laws_FnExactPushTail.j1 k x1 x7 true x327000 x327001 x327002 x327003 x342000 x342001 x342002 x342003 x357000 x357001 x357002 x357003) else ((laws_eqRing.f k x357000 x357001 x357002 x357003 x342000 x342001 x342002 x342003).bind fun t367 => (if t367 = true then (laws_FnExactPushTail.j1 k x1 x7 (x10 != x7) x327000 x327001 x327002 x327003 x342000 x342001 x342002 x342003 x357000 x357001 x357002 x357003) else (laws_FnExactPushTail.j1 k x1 x7 true x327000 x327001 x327002 x327003 x342000 x342001 x342002 x342003 x357000 x357001 x357002 x357003))))) else (some false))))
def laws_FnExactPushTail.j1 : Nat → Int → Bool → Bool → List (S23) → Int → Int → Int → List (S26) → Int → Int → Int → List (S26) → Int → Int → Int → Option (Bool)
 | 0, _, _, _, _, _, _, _, _, _, _, _, _, _, _, _ => none
 | k + 1, x1, x7, x65, x327000, x327001, x327002, x327003, x342000, x342001, x342002, x342003, x357000, x357001, x357002, x357003 => if x65 = true then (some false) else ((laws_markRing.f k x357000 x357001 x357002 x357003 1).bind fun bt368 => ((laws_heldRing.f k bt368.2 x357001 x357002 x357003 1).bind fun t370 => (if t370 < 0 then (some false) else (if t370 = bt368.1 then ((laws_toRing.f k x327000 x327001 x327002 x327003).bind fun bt371 => ((impl_PushTail.f k bt371.1 bt371.2.1 bt371.2.2.1 bt371.2.2.2 x1).bind fun bt377 => ((laws_eqRing.f k bt377.1 bt377.2.1 bt377.2.2.1 bt377.2.2.2.1 x342000 x342001 x342002 x342003).bind fun t385 => (if t385 = true then (laws_FnExactPushTail.j2 k bt368.1 (bt377.2.2.2.2 != x7) bt368.2 x357001 x357002 x357003) else (laws_FnExactPushTail.j2 k bt368.1 true bt368.2 x357001 x357002 x357003))))) else (some false)))))
def laws_FnExactPushTail.j2 : Nat → Int → Bool → List (S26) → Int → Int → Int → Option (Bool)
 | 0, _, _, _, _, _, _ => none
 | k + 1, x12, x92, x357000, x357001, x357002, x357003 => if x92 = true then (some false) else ((laws_heldRing.f k x357000 x357001 x357002 x357003 1).bind fun t386 => (if t386 < 0 then (some false) else (if t386 = x12 then (some true) else (some false))))
end
def laws_FnExactPushTail.f (k : Nat) (l0_0 : List (S23)) (a0_1 : Int) (a0_2 : Int) (a0_3 : Int) (a1 : Int) : Option (Bool) := (laws_szRing.f k l0_0 a0_1 a0_2 a0_3 1048576).bind fun t327 => (if t327 < 0 then (some true) else ((laws_toRing.f k l0_0 a0_1 a0_2 a0_3).bind fun bt328 => ((spec_PushTail.f k bt328.1 bt328.2.1 bt328.2.2.1 bt328.2.2.2 a1).bind fun bt334 => ((laws_toRing.f k l0_0 a0_1 a0_2 a0_3).bind fun bt342 => ((impl_PushTail.f k bt342.1 bt342.2.1 bt342.2.2.1 bt342.2.2.2 a1).bind fun bt349 => ((laws_eqRing.f k bt349.1 bt349.2.1 bt349.2.2.1 bt349.2.2.2.1 bt334.1 bt334.2.1 bt334.2.2.1 bt334.2.2.2.1).bind fun t357 => (if t357 = true then (laws_FnExactPushTail.j0 k a1 bt334.2.2.2.2 bt349.2.2.2.2 (bt349.2.2.2.2 != bt334.2.2.2.2) l0_0 a0_1 a0_2 a0_3 bt334.1 bt334.2.1 bt334.2.2.1 bt334.2.2.2.1 bt342.1 bt342.2.1 bt342.2.2.1 bt342.2.2.2 bt349.1 bt349.2.1 bt349.2.2.1 bt349.2.2.2.1) else (laws_FnExactPushTail.j0 k a1 bt334.2.2.2.2 bt349.2.2.2.2 true l0_0 a0_1 a0_2 a0_3 bt334.1 bt334.2.1 bt334.2.2.1 bt334.2.2.2.1 bt342.1 bt342.2.1 bt342.2.2.1 bt342.2.2.2 bt349.1 bt349.2.1 bt349.2.2.1 bt349.2.2.2.1))))))))
theorem laws_FnExactPushTail.mono_l : ∀ k, (∀ y0 y1 y2 y3 y4 y5 y6 y7 y8 y9 y10 y11 y12 y13 y14 y15 y16 y17 y18 y19, LeO (laws_FnExactPushTail.j0 k y0 y1 y2 y3 y4 y5 y6 y7 y8 y9 y10 y11 y12 y13 y14 y15 y16 y17 y18 y19) (laws_FnExactPushTail.j0 (k + 1) y0 y1 y2 y3 y4 y5 y6 y7 y8 y9 y10 y11 y12 y13 y14 y15 y16 y17 y18 y19)) ∧ (∀ y0 y1 y2 y3 y4 y5 y6 y7 y8 y9 y10 y11 y12 y13 y14, LeO (laws_FnExactPushTail.j1 k y0 y1 y2 y3 y4 y5 y6 y7 y8 y9 y10 y11 y12 y13 y14) (laws_FnExactPushTail.j1 (k + 1) y0 y1 y2 y3 y4 y5 y6 y7 y8 y9 y10 y11 y12 y13 y14)) ∧ (∀ y0 y1 y2 y3 y4 y5, LeO (laws_FnExactPushTail.j2 k y0 y1 y2 y3 y4 y5) (laws_FnExactPushTail.j2 (k + 1) y0 y1 y2 y3 y4 y5))
 | 0 => ⟨fun _ _ _ _ _ _ _ _ _ _ _ _ _ _ _ _ _ _ _ _ r h => by simp [laws_FnExactPushTail.j0] at h, fun _ _ _ _ _ _ _ _ _ _ _ _ _ _ _ r h => by simp [laws_FnExactPushTail.j1] at h, fun _ _ _ _ _ _ r h => by simp [laws_FnExactPushTail.j2] at h⟩
 | k + 1 => by
  obtain ⟨ih0, ih1, ih2⟩ := laws_FnExactPushTail.mono_l k
  refine ⟨?_, ?_, ?_⟩
  ·
   intro y0 y1 y2 y3 y4 y5 y6 y7 y8 y9 y10 y11 y12 y13 y14 y15 y16 y17 y18 y19
   unfold laws_FnExactPushTail.j0
   repeat' first
   | (with_reducible exact ih0 _ _ _ _ _ _ _ _ _ _ _ _ _ _ _ _ _ _ _ _)
   | (with_reducible exact ih1 _ _ _ _ _ _ _ _ _ _ _ _ _ _ _)
   | (with_reducible exact ih2 _ _ _ _ _ _)
   | (with_reducible exact impl_PushTail.mono _ _ _ _ _ _)
   | (with_reducible exact laws_eqRing.mono _ _ _ _ _ _ _ _ _)
   | (with_reducible exact laws_heldRing.mono _ _ _ _ _ _)
   | (with_reducible exact laws_markRing.mono _ _ _ _ _ _)
   | (with_reducible exact laws_szRing.mono _ _ _ _ _ _)
   | (with_reducible exact laws_toRing.mono _ _ _ _ _)
   | (with_reducible exact spec_PushTail.mono _ _ _ _ _ _)
   | (with_reducible exact LeO.refl _)
   | (with_reducible exact LeO.none _)
   | (with_reducible refine LeO.ite ?_ ?_)
   | (with_reducible refine LeO.bind ?_ (fun _ => ?_))
   | exact ih0 _ _ _ _ _ _ _ _ _ _ _ _ _ _ _ _ _ _ _ _
   | exact ih1 _ _ _ _ _ _ _ _ _ _ _ _ _ _ _
   | exact ih2 _ _ _ _ _ _
   | exact impl_PushTail.mono _ _ _ _ _ _
   | exact laws_eqRing.mono _ _ _ _ _ _ _ _ _
   | exact laws_heldRing.mono _ _ _ _ _ _
   | exact laws_markRing.mono _ _ _ _ _ _
   | exact laws_szRing.mono _ _ _ _ _ _
   | exact laws_toRing.mono _ _ _ _ _
   | exact spec_PushTail.mono _ _ _ _ _ _
   | exact LeO.none _
   | refine LeO.ite ?_ ?_
   | refine LeO.bind ?_ (fun _ => ?_)
  ·
   intro y0 y1 y2 y3 y4 y5 y6 y7 y8 y9 y10 y11 y12 y13 y14
   unfold laws_FnExactPushTail.j1
   repeat' first
   | (with_reducible exact ih0 _ _ _ _ _ _ _ _ _ _ _ _ _ _ _ _ _ _ _ _)
   | (with_reducible exact ih1 _ _ _ _ _ _ _ _ _ _ _ _ _ _ _)
   | (with_reducible exact ih2 _ _ _ _ _ _)
   | (with_reducible exact impl_PushTail.mono _ _ _ _ _ _)
   | (with_reducible exact laws_eqRing.mono _ _ _ _ _ _ _ _ _)
   | (with_reducible exact laws_heldRing.mono _ _ _ _ _ _)
   | (with_reducible exact laws_markRing.mono _ _ _ _ _ _)
   | (with_reducible exact laws_szRing.mono _ _ _ _ _ _)
   | (with_reducible exact laws_toRing.mono _ _ _ _ _)
   | (with_reducible exact spec_PushTail.mono _ _ _ _ _ _)
   | (with_reducible exact LeO.refl _)
   | (with_reducible exact LeO.none _)
   | (with_reducible refine LeO.ite ?_ ?_)
   | (with_reducible refine LeO.bind ?_ (fun _ => ?_))
   | exact ih0 _ _ _ _ _ _ _ _ _ _ _ _ _ _ _ _ _ _ _ _
   | exact ih1 _ _ _ _ _ _ _ _ _ _ _ _ _ _ _
   | exact ih2 _ _ _ _ _ _
   | exact impl_PushTail.mono _ _ _ _ _ _
   | exact laws_eqRing.mono _ _ _ _ _ _ _ _ _
   | exact laws_heldRing.mono _ _ _ _ _ _
   | exact laws_markRing.mono _ _ _ _ _ _
   | exact laws_szRing.mono _ _ _ _ _ _
   | exact laws_toRing.mono _ _ _ _ _
   | exact spec_PushTail.mono _ _ _ _ _ _
   | exact LeO.none _
   | refine LeO.ite ?_ ?_
   | refine LeO.bind ?_ (fun _ => ?_)
  ·
   intro y0 y1 y2 y3 y4 y5
   unfold laws_FnExactPushTail.j2
   repeat' first
   | (with_reducible exact ih0 _ _ _ _ _ _ _ _ _ _ _ _ _ _ _ _ _ _ _ _)
   | (with_reducible exact ih1 _ _ _ _ _ _ _ _ _ _ _ _ _ _ _)
   | (with_reducible exact ih2 _ _ _ _ _ _)
   | (with_reducible exact impl_PushTail.mono _ _ _ _ _ _)
   | (with_reducible exact laws_eqRing.mono _ _ _ _ _ _ _ _ _)
   | (with_reducible exact laws_heldRing.mono _ _ _ _ _ _)
   | (with_reducible exact laws_markRing.mono _ _ _ _ _ _)
   | (with_reducible exact laws_szRing.mono _ _ _ _ _ _)
   | (with_reducible exact laws_toRing.mono _ _ _ _ _)
   | (with_reducible exact spec_PushTail.mono _ _ _ _ _ _)
   | (with_reducible exact LeO.refl _)
   | (with_reducible exact LeO.none _)
   | (with_reducible refine LeO.ite ?_ ?_)
   | (with_reducible refine LeO.bind ?_ (fun _ => ?_))
   | exact ih0 _ _ _ _ _ _ _ _ _ _ _ _ _ _ _ _ _ _ _ _
   | exact ih1 _ _ _ _ _ _ _ _ _ _ _ _ _ _ _
   | exact ih2 _ _ _ _ _ _
   | exact impl_PushTail.mono _ _ _ _ _ _
   | exact laws_eqRing.mono _ _ _ _ _ _ _ _ _
   | exact laws_heldRing.mono _ _ _ _ _ _
   | exact laws_markRing.mono _ _ _ _ _ _
   | exact laws_szRing.mono _ _ _ _ _ _
   | exact laws_toRing.mono _ _ _ _ _
   | exact spec_PushTail.mono _ _ _ _ _ _
   | exact LeO.none _
   | refine LeO.ite ?_ ?_
   | refine LeO.bind ?_ (fun _ => ?_)
theorem laws_FnExactPushTail.mono : ∀ a0 a1 a2 a3 a4 k, LeO (laws_FnExactPushTail.f k a0 a1 a2 a3 a4) (laws_FnExactPushTail.f (k + 1) a0 a1 a2 a3 a4) := by
 intro a0 a1 a2 a3 a4 k
 obtain ⟨ih0, ih1, ih2⟩ := laws_FnExactPushTail.mono_l k
 unfold laws_FnExactPushTail.f
 repeat' first
   | (with_reducible exact ih0 _ _ _ _ _ _ _ _ _ _ _ _ _ _ _ _ _ _ _ _)
   | (with_reducible exact ih1 _ _ _ _ _ _ _ _ _ _ _ _ _ _ _)
   | (with_reducible exact ih2 _ _ _ _ _ _)
   | (with_reducible exact impl_PushTail.mono _ _ _ _ _ _)
   | (with_reducible exact laws_eqRing.mono _ _ _ _ _ _ _ _ _)
   | (with_reducible exact laws_heldRing.mono _ _ _ _ _ _)
   | (with_reducible exact laws_markRing.mono _ _ _ _ _ _)
   | (with_reducible exact laws_szRing.mono _ _ _ _ _ _)
   | (with_reducible exact laws_toRing.mono _ _ _ _ _)
   | (with_reducible exact spec_PushTail.mono _ _ _ _ _ _)
   | (with_reducible exact LeO.refl _)
   | (with_reducible exact LeO.none _)
   | (with_reducible refine LeO.ite ?_ ?_)
   | (with_reducible refine LeO.bind ?_ (fun _ => ?_))
   | exact ih0 _ _ _ _ _ _ _ _ _ _ _ _ _ _ _ _ _ _ _ _
   | exact ih1 _ _ _ _ _ _ _ _ _ _ _ _ _ _ _
   | exact ih2 _ _ _ _ _ _
   | exact impl_PushTail.mono _ _ _ _ _ _
   | exact laws_eqRing.mono _ _ _ _ _ _ _ _ _
   | exact laws_heldRing.mono _ _ _ _ _ _
   | exact laws_markRing.mono _ _ _ _ _ _
   | exact laws_szRing.mono _ _ _ _ _ _
   | exact laws_toRing.mono _ _ _ _ _
   | exact spec_PushTail.mono _ _ _ _ _ _
   | exact LeO.none _
   | refine LeO.ite ?_ ?_
   | refine LeO.bind ?_ (fun _ => ?_)
set_option maxHeartbeats 8000000 in
set_option maxRecDepth 100000 in
theorem laws_FnExactPushTail.calls (k : Nat) (A0_0 : Option Addr) (c0_0 : Nat) (l0_0 : List (S23)) (a0_1 : Int) (a0_2 : Int) (a0_3 : Int) (a1 : Int) (r : Bool) (w : World) (hTab_ : Aside0 (Ito.TabW w)) (hr0_0 : Kd.C k23 w A0_0 l0_0.length l0_0) (hc0_0 : l0_0.length ≤ c0_0) (h : laws_FnExactPushTail.f k l0_0 a0_1 a0_2 a0_3 a1 = some r) :
  Calls Tryd.prog 9 #[.agg #[.slice A0_0 l0_0.length c0_0, .int .i64 a0_1, .int .i64 a0_2, .int .i64 a0_3], .int .i64 a1] w fun e w' => e = .returned (.bool r) ∧ Below w.heap.size w w' := by
 have hu31 := Tryd.underlying31
 have hu36 := Tryd.underlying36
 have HR0_0 := Aside0.mk hr0_0
 have HC0_0 := Aside0.mk hc0_0
 clear hr0_0 hc0_0
 have HB := Aside0.mk (Below.refl w.heap.size w)
 have H : ((laws_szRing.f k l0_0 a0_1 a0_2 a0_3 1048576).bind fun t327 => (if t327 < 0 then (some true) else ((laws_toRing.f k l0_0 a0_1 a0_2 a0_3).bind fun bt328 => ((spec_PushTail.f k bt328.1 bt328.2.1 bt328.2.2.1 bt328.2.2.2 a1).bind fun bt334 => ((laws_toRing.f k l0_0 a0_1 a0_2 a0_3).bind fun bt342 => ((impl_PushTail.f k bt342.1 bt342.2.1 bt342.2.2.1 bt342.2.2.2 a1).bind fun bt349 => ((laws_eqRing.f k bt349.1 bt349.2.1 bt349.2.2.1 bt349.2.2.2.1 bt334.1 bt334.2.1 bt334.2.2.1 bt334.2.2.2.1).bind fun t357 => (if t357 = true then (laws_FnExactPushTail.j0 k a1 bt334.2.2.2.2 bt349.2.2.2.2 (bt349.2.2.2.2 != bt334.2.2.2.2) l0_0 a0_1 a0_2 a0_3 bt334.1 bt334.2.1 bt334.2.2.1 bt334.2.2.2.1 bt342.1 bt342.2.1 bt342.2.2.1 bt342.2.2.2 bt349.1 bt349.2.1 bt349.2.2.1 bt349.2.2.2.1) else (laws_FnExactPushTail.j0 k a1 bt334.2.2.2.2 bt349.2.2.2.2 true l0_0 a0_1 a0_2 a0_3 bt334.1 bt334.2.1 bt334.2.2.1 bt334.2.2.2.1 bt342.1 bt342.2.1 bt342.2.2.1 bt342.2.2.2 bt349.1 bt349.2.1 bt349.2.2.1 bt349.2.2.2.1))))))))) = some r := h
 clear h
 replace H := Option.bind_eq_some_iff.mp H
 obtain ⟨t327, A30, H⟩ := H
 replace H : (if t327 < 0 then (some true) else ((laws_toRing.f k l0_0 a0_1 a0_2 a0_3).bind fun bt328 => ((spec_PushTail.f k bt328.1 bt328.2.1 bt328.2.2.1 bt328.2.2.2 a1).bind fun bt334 => ((laws_toRing.f k l0_0 a0_1 a0_2 a0_3).bind fun bt342 => ((impl_PushTail.f k bt342.1 bt342.2.1 bt342.2.2.1 bt342.2.2.2 a1).bind fun bt349 => ((laws_eqRing.f k bt349.1 bt349.2.1 bt349.2.2.1 bt349.2.2.2.1 bt334.1 bt334.2.1 bt334.2.2.1 bt334.2.2.2.1).bind fun t357 => (if t357 = true then (laws_FnExactPushTail.j0 k a1 bt334.2.2.2.2 bt349.2.2.2.2 (bt349.2.2.2.2 != bt334.2.2.2.2) l0_0 a0_1 a0_2 a0_3 bt334.1 bt334.2.1 bt334.2.2.1 bt334.2.2.2.1 bt342.1 bt342.2.1 bt342.2.2.1 bt342.2.2.2 bt349.1 bt349.2.1 bt349.2.2.1 bt349.2.2.2.1) else (laws_FnExactPushTail.j0 k a1 bt334.2.2.2.2 bt349.2.2.2.2 true l0_0 a0_1 a0_2 a0_3 bt334.1 bt334.2.1 bt334.2.2.1 bt334.2.2.2.1 bt342.1 bt342.2.1 bt342.2.2.1 bt342.2.2.2 bt349.1 bt349.2.1 bt349.2.2.1 bt349.2.2.2.1)))))))) = some r := H
 have A3 := Aside0.mk A30
 clear A30
 by_cases c4 : t327 < 0
 ·
  rw [if_pos c4] at H
  have c4b0 : decide (t327 < 0) = true := decide_eq_true c4
  clear c4
  obtain rfl := Option.some.inj H
  go_enter Tryd.func9, Tryd.ntmps9
  go_wp2_with (first | ((with_reducible refine gate_dst (N := 2) rfl ?_); refine box_event ?hg (N := 2) ?hd (cs := #[.slice A0_0 l0_0.length c0_0, .int .i64 a0_1, .int .i64 a0_2, .int .i64 a0_3]) (t := 31) ?hr ?_; (case hd => rfl); (case hg => rfl); (case hr => first | (go_simp; done) | (go_simp; rfl)); intro gb326 hg w5 hbox hb; have BK326 := Aside0.mk (hbox); have GW326 := Aside0.mk ((by rw [hg]; exact (below_size (bs HB)) : w.heap.size ≤ gb326)); have GE326 := Aside0.mk ((by rw [hg]; exact (below_size (bs HB)) : w.heap.size ≤ gb326)); replace HB := Aside0.mk (below_step (bs HB) hb); clear hb hbox hg; obtain ⟨hcz6_0, hcz6_1, hcz6_2, hcz6_3⟩ := cz4 BK326; obtain ⟨hfz6_0, hfz6_1, hfz6_2, hfz6_3⟩ := fz4 BK326) | ((with_reducible refine gate_callee (f := 17) rfl ?_); refine gL (some 18) rfl rfl Tryd.func17 (by kernel_rfl) rfl #[.agg #[.slice A0_0 l0_0.length c0_0, .int .i64 a0_1, .int .i64 a0_2, .int .i64 a0_3], .int .i64 1048576] rfl ?_; (with_reducible refine (laws_szRing.calls k _ _ l0_0 a0_1 a0_2 a0_3 1048576 t327 _ ?side1 ?side2 A3.out).mono ?_); (case side1 => exact cb HR0_0 HB); (case side2 => exact HC0_0.out); rintro e w7 ⟨rfl, hb⟩; refine ⟨_, rfl, ?_⟩; replace BK326 := nb BK326 hb; replace HB := Aside0.mk (below_step (bs1 HB GE326) hb); (try clear hb); (try clear hb2); (try clear hk); (try clear hi)))
  go_ret
  exact ⟨by first | rfl | (simp [errW_none, errW_some] <;> rfl) | (simp [*, errW_none, errW_some] <;> rfl), bs1 HB GE326⟩
 ·
  rw [if_neg c4] at H
  have c4b0 : decide (t327 < 0) = false := decide_eq_false c4
  clear c4
  replace H := Option.bind_eq_some_iff.mp H
  obtain ⟨⟨t328, t331, t332, t333⟩, A80, H⟩ := H
  replace H : ((spec_PushTail.f k t328 t331 t332 t333 a1).bind fun bt334 => ((laws_toRing.f k l0_0 a0_1 a0_2 a0_3).bind fun bt342 => ((impl_PushTail.f k bt342.1 bt342.2.1 bt342.2.2.1 bt342.2.2.2 a1).bind fun bt349 => ((laws_eqRing.f k bt349.1 bt349.2.1 bt349.2.2.1 bt349.2.2.2.1 bt334.1 bt334.2.1 bt334.2.2.1 bt334.2.2.2.1).bind fun t357 => (if t357 = true then (laws_FnExactPushTail.j0 k a1 bt334.2.2.2.2 bt349.2.2.2.2 (bt349.2.2.2.2 != bt334.2.2.2.2) l0_0 a0_1 a0_2 a0_3 bt334.1 bt334.2.1 bt334.2.2.1 bt334.2.2.2.1 bt342.1 bt342.2.1 bt342.2.2.1 bt342.2.2.2 bt349.1 bt349.2.1 bt349.2.2.1 bt349.2.2.2.1) else (laws_FnExactPushTail.j0 k a1 bt334.2.2.2.2 bt349.2.2.2.2 true l0_0 a0_1 a0_2 a0_3 bt334.1 bt334.2.1 bt334.2.2.1 bt334.2.2.2.1 bt342.1 bt342.2.1 bt342.2.2.1 bt342.2.2.2 bt349.1 bt349.2.1 bt349.2.2.1 bt349.2.2.2.1)))))) = some r := H
  have A8 := Aside0.mk A80
  clear A80
  replace H := Option.bind_eq_some_iff.mp H
  obtain ⟨⟨t334, t337, t338, t339, t340⟩, A90, H⟩ := H
  replace H : ((laws_toRing.f k l0_0 a0_1 a0_2 a0_3).bind fun bt342 => ((impl_PushTail.f k bt342.1 bt342.2.1 bt342.2.2.1 bt342.2.2.2 a1).bind fun bt349 => ((laws_eqRing.f k bt349.1 bt349.2.1 bt349.2.2.1 bt349.2.2.2.1 t334 t337 t338 t339).bind fun t357 => (if t357 = true then (laws_FnExactPushTail.j0 k a1 t340 bt349.2.2.2.2 (bt349.2.2.2.2 != t340) l0_0 a0_1 a0_2 a0_3 t334 t337 t338 t339 bt342.1 bt342.2.1 bt342.2.2.1 bt342.2.2.2 bt349.1 bt349.2.1 bt349.2.2.1 bt349.2.2.2.1) else (laws_FnExactPushTail.j0 k a1 t340 bt349.2.2.2.2 true l0_0 a0_1 a0_2 a0_3 t334 t337 t338 t339 bt342.1 bt342.2.1 bt342.2.2.1 bt342.2.2.2 bt349.1 bt349.2.1 bt349.2.2.1 bt349.2.2.2.1))))) = some r := H
  have A9 := Aside0.mk A90
  clear A90
  replace H := Option.bind_eq_some_iff.mp H
  obtain ⟨⟨t342, t345, t346, t347⟩, A100, H⟩ := H
  replace H : ((impl_PushTail.f k t342 t345 t346 t347 a1).bind fun bt349 => ((laws_eqRing.f k bt349.1 bt349.2.1 bt349.2.2.1 bt349.2.2.2.1 t334 t337 t338 t339).bind fun t357 => (if t357 = true then (laws_FnExactPushTail.j0 k a1 t340 bt349.2.2.2.2 (bt349.2.2.2.2 != t340) l0_0 a0_1 a0_2 a0_3 t334 t337 t338 t339 t342 t345 t346 t347 bt349.1 bt349.2.1 bt349.2.2.1 bt349.2.2.2.1) else (laws_FnExactPushTail.j0 k a1 t340 bt349.2.2.2.2 true l0_0 a0_1 a0_2 a0_3 t334 t337 t338 t339 t342 t345 t346 t347 bt349.1 bt349.2.1 bt349.2.2.1 bt349.2.2.2.1)))) = some r := H
  have A10 := Aside0.mk A100
  clear A100
  replace H := Option.bind_eq_some_iff.mp H
  obtain ⟨⟨t349, t352, t353, t354, t355⟩, A110, H⟩ := H
  replace H : ((laws_eqRing.f k t349 t352 t353 t354 t334 t337 t338 t339).bind fun t357 => (if t357 = true then (laws_FnExactPushTail.j0 k a1 t340 t355 (t355 != t340) l0_0 a0_1 a0_2 a0_3 t334 t337 t338 t339 t342 t345 t346 t347 t349 t352 t353 t354) else (laws_FnExactPushTail.j0 k a1 t340 t355 true l0_0 a0_1 a0_2 a0_3 t334 t337 t338 t339 t342 t345 t346 t347 t349 t352 t353 t354))) = some r := H
  have A11 := Aside0.mk A110
  clear A110
  have HC12 := Aside0.mk H
  clear H
  go_enter Tryd.func9, Tryd.ntmps9
  go_upto_region 8 with (first | ((with_reducible refine gate_dst (N := 2) rfl ?_); refine box_event ?hg (N := 2) ?hd (cs := #[.slice A0_0 l0_0.length c0_0, .int .i64 a0_1, .int .i64 a0_2, .int .i64 a0_3]) (t := 31) ?hr ?_; (case hd => rfl); (case hg => rfl); (case hr => first | (go_simp; done) | (go_simp; rfl)); intro gb326 hg w13 hbox hb; have BK326 := Aside0.mk (hbox); have GW326 := Aside0.mk ((by rw [hg]; exact (below_size (bs HB)) : w.heap.size ≤ gb326)); have GE326 := Aside0.mk ((by rw [hg]; exact (below_size (bs HB)) : w.heap.size ≤ gb326)); replace HB := Aside0.mk (below_step (bs HB) hb); clear hb hbox hg; obtain ⟨hcz14_0, hcz14_1, hcz14_2, hcz14_3⟩ := cz4 BK326; obtain ⟨hfz14_0, hfz14_1, hfz14_2, hfz14_3⟩ := fz4 BK326) | ((with_reducible refine gate_callee (f := 17) rfl ?_); refine gL (some 18) rfl rfl Tryd.func17 (by kernel_rfl) rfl #[.agg #[.slice A0_0 l0_0.length c0_0, .int .i64 a0_1, .int .i64 a0_2, .int .i64 a0_3], .int .i64 1048576] rfl ?_; (with_reducible refine (laws_szRing.calls k _ _ l0_0 a0_1 a0_2 a0_3 1048576 t327 _ ?side1 ?side2 A3.out).mono ?_); (case side1 => exact cb HR0_0 HB); (case side2 => exact HC0_0.out); rintro e w15 ⟨rfl, hb⟩; refine ⟨_, rfl, ?_⟩; replace BK326 := nb BK326 hb; replace HB := Aside0.mk (below_step (bs1 HB GE326) hb); (try clear hb); (try clear hb2); (try clear hk); (try clear hi); obtain ⟨hcz16_0, hcz16_1, hcz16_2, hcz16_3⟩ := cz4 BK326; obtain ⟨hfz16_0, hfz16_1, hfz16_2, hfz16_3⟩ := fz4 BK326) | ((with_reducible refine gate_callee (f := 19) rfl ?_); refine gL (some 23) rfl rfl Tryd.func19 (by kernel_rfl) rfl #[.agg #[.slice A0_0 l0_0.length c0_0, .int .i64 a0_1, .int .i64 a0_2, .int .i64 a0_3]] rfl ?_; (with_reducible refine (laws_toRing.calls k _ _ l0_0 a0_1 a0_2 a0_3 t328 t331 t332 t333 _ ?side1 ?side2 A8.out).mono ?_); (case side1 => exact cb HR0_0 HB); (case side2 => exact HC0_0.out); rintro e w17 ⟨v329, rfl, ho0, hb⟩; refine ⟨_, rfl, ?_⟩; have HO330 := Aside0.mk (Kd.R_lower ho0 (below_size (bs1 HB GE326))); replace BK326 := nb BK326 hb; replace HB := Aside0.mk (below_step (bs1 HB GE326) hb); (try clear hb); (try clear hb2); (try clear hk); (try clear hi); (try clear ho0); obtain ⟨Ao18, co18, eo18⟩ := Kd.R_slice HO330.out; subst eo18) | ((with_reducible refine gate_callee (f := 40) rfl ?_); refine gL (some 25) rfl rfl Tryd.func40 (by kernel_rfl) rfl #[.agg #[.slice Ao18 t328.length co18, .int .i64 t331, .int .i64 t332, .int .i64 t333], .int .i64 a1] rfl ?_; (with_reducible refine (spec_PushTail.calls k _ _ t328 t331 t332 t333 a1 t334 t337 t338 t339 t340 _ ?side1 ?side2 A9.out).mono ?_); (case side1 => exact rc0 HO330); (case side2 => exact (Kd.R_reads' HO330.out).2.1); rintro e w19 ⟨v335, rfl, ho0, hb⟩; refine ⟨_, rfl, ?_⟩; have HO336 := Aside0.mk (Kd.R_lower (Kd.R_new' ho0 (Kd.R_lt (rr HO330.out))) (below_size (bs1 HB GE326))); replace HO330 := Aside0.mk (Kd.R_elder' (rr HO330.out) (Kd.R_base ho0) hb); replace BK326 := nb BK326 hb; replace HB := Aside0.mk (below_step (bs1 HB GE326) hb); (try clear hb); (try clear hb2); (try clear hk); (try clear hi); (try clear ho0)) | ((with_reducible refine gate_dst (N := 6) rfl ?_); refine box_event ?hg (N := 6) ?hd (cs := #[.slice none 0 0, .int .i64 0, .int .i64 0, .int .i64 0]) (t := 36) ?hr ?_; (case hd => rfl); (case hg => rfl); (case hr => first | (go_simp; done) | (go_simp; rfl)); intro gb341 hg w20 hbox hb; replace HO330 := nr HO330 hb; replace HO336 := nr HO336 hb; have BK341 := Aside0.mk (hbox); have GW341 := Aside0.mk ((by rw [hg]; exact (below_size (bs1 HB GE326)) : w.heap.size ≤ gb341)); have GE341 := Aside0.mk ((by rw [hg]; exact (below_size (bs1 HB GE326)) : w.heap.size ≤ gb341)); replace HB := Aside0.mk (below_step (bs1 HB GE326) hb); have NB326_341 := Aside0.mk ((bn BK326 hg : gb326 ≠ gb341)); have NB341_326 := Aside0.mk ((bm BK326 hg : gb341 ≠ gb326)); replace BK326 := nb BK326 hb; clear hb hbox hg; obtain ⟨Ao21, co21, eo21⟩ := Kd.R_slice HO336.out; subst eo21; have hnb22 := NB341_326.out; have hnc22 := NB326_341.out; obtain ⟨hcz23_0, hcz23_1, hcz23_2, hcz23_3⟩ := cz4 BK341; obtain ⟨hfz23_0, hfz23_1, hfz23_2, hfz23_3⟩ := fz4 BK341; obtain ⟨hcz24_0, hcz24_1, hcz24_2, hcz24_3⟩ := cz4 BK326; obtain ⟨hfz24_0, hfz24_1, hfz24_2, hfz24_3⟩ := fz4 BK326) | ((with_reducible refine gate_callee (f := 19) rfl ?_); refine gL (some 29) rfl rfl Tryd.func19 (by kernel_rfl) rfl #[.agg #[.slice A0_0 l0_0.length c0_0, .int .i64 a0_1, .int .i64 a0_2, .int .i64 a0_3]] rfl ?_; (with_reducible refine (laws_toRing.calls k _ _ l0_0 a0_1 a0_2 a0_3 t342 t345 t346 t347 _ ?side1 ?side2 A10.out).mono ?_); (case side1 => exact Kd.C_below HR0_0.out (bs2 HB GE326 GE341)); (case side2 => exact HC0_0.out); rintro e w25 ⟨v343, rfl, ho0, hb⟩; refine ⟨_, rfl, ?_⟩; have HO344 := Aside0.mk (Kd.R_lower (Kd.R_new' (Kd.R_new' ho0 (Kd.R_lt (rf HO330 BK341))) (Kd.R_lt (rf HO336 BK341))) (below_size (bs2 HB GE326 GE341))); replace HO330 := Aside0.mk (Kd.R_elder' (rf HO330 BK341) (Kd.R_base ho0) hb); replace HO336 := Aside0.mk (Kd.R_elder' (rf HO336 BK341) (Kd.R_base ho0) hb); replace BK326 := Aside0.mk (blk_below (bf BK326 NB326_341) hb); replace BK341 := Aside0.mk (blk_below (g := gb341) (o := .cells #[.slice Ao21 t334.length co21, .int .i64 t337, .int .i64 t338, .int .i64 t339] 36 (0, 0)) (by (with_reducible repeat (first | refine blk_drewN ?_ _ | refine blk_drew ?_ | refine blk_alloc ?_ _)); refine blk_put (cs := #[.slice Ao21 t334.length co21, .int .i64 t337, .int .i64 t338, .int .i64 0]) ?_ 3 _ rfl; (with_reducible repeat (first | refine blk_drewN ?_ _ | refine blk_drew ?_ | refine blk_alloc ?_ _)); refine blk_put (cs := #[.slice Ao21 t334.length co21, .int .i64 t337, .int .i64 0, .int .i64 0]) ?_ 2 _ rfl; (with_reducible repeat (first | refine blk_drewN ?_ _ | refine blk_drew ?_ | refine blk_alloc ?_ _)); refine blk_put (cs := #[.slice Ao21 t334.length co21, .int .i64 0, .int .i64 0, .int .i64 0]) ?_ 1 _ rfl; (with_reducible repeat (first | refine blk_drewN ?_ _ | refine blk_drew ?_ | refine blk_alloc ?_ _)); refine blk_put (cs := #[.slice none 0 0, .int .i64 0, .int .i64 0, .int .i64 0]) ?_ 0 _ rfl; (with_reducible repeat (first | refine blk_drewN ?_ _ | refine blk_drew ?_ | refine blk_alloc ?_ _)); exact BK341.out) hb); replace HB := Aside0.mk (below_step (bs2 HB GE326 GE341) hb); (try clear hb); (try clear hb2); (try clear hk); (try clear hi); (try clear ho0)) | ((with_reducible refine gate_dst (N := 8) rfl ?_); refine box_event ?hg (N := 8) ?hd (cs := #[.slice none 0 0, .int .i64 0, .int .i64 0, .int .i64 0]) (t := 36) ?hr ?_; (case hd => rfl); (case hg => rfl); (case hr => first | (go_simp; done) | (go_simp; rfl)); intro gb348 hg w26 hbox hb; replace HO330 := nr HO330 hb; replace HO336 := nr HO336 hb; replace HO344 := nr HO344 hb; have BK348 := Aside0.mk (hbox); have GW348 := Aside0.mk ((by rw [hg]; exact (below_size (bs2 HB GE326 GE341)) : w.heap.size ≤ gb348)); have GE348 := Aside0.mk ((by rw [hg]; exact (below_size (bs2 HB GE326 GE341)) : w.heap.size ≤ gb348)); replace HB := Aside0.mk (below_step (bs2 HB GE326 GE341) hb); have NB326_348 := Aside0.mk ((bn BK326 hg : gb326 ≠ gb348)); have NB348_326 := Aside0.mk ((bm BK326 hg : gb348 ≠ gb326)); replace BK326 := nb BK326 hb; have NB341_348 := Aside0.mk ((bn BK341 hg : gb341 ≠ gb348)); have NB348_341 := Aside0.mk ((bm BK341 hg : gb348 ≠ gb341)); replace BK341 := nb BK341 hb; clear hb hbox hg; obtain ⟨Ao27, co27, eo27⟩ := Kd.R_slice HO344.out; subst eo27; have hnb28 := NB348_326.out; have hnc28 := NB326_348.out; have hnb29 := NB348_341.out; have hnc29 := NB341_348.out; obtain ⟨hcz30_0, hcz30_1, hcz30_2, hcz30_3⟩ := cz4 BK348; obtain ⟨hfz30_0, hfz30_1, hfz30_2, hfz30_3⟩ := fz4 BK348) | ((with_reducible refine gate_callee (f := 39) rfl ?_); refine gL (some 33) rfl rfl Tryd.func39 (by kernel_rfl) rfl #[.agg #[.slice Ao27 t342.length co27, .int .i64 t345, .int .i64 t346, .int .i64 t347], .int .i64 a1] rfl ?_; (with_reducible refine (impl_PushTail.calls k _ _ t342 t345 t346 t347 a1 t349 t352 t353 t354 t355 _ ?sideT ?side1 ?side2 A11.out).mono ?_); (case sideT => refine ⟨Ito.tabB hTab_.out ?_⟩; first | exact bs HB | exact st_below | (repeat (first | (with_reducible first | exact HB.out | apply below_alloc | apply pw_below_drewN | apply below_drew1 | refine below_set ?_ (Aside0.out (by assumption))) | exact HB.out))); (case side1 => exact rc HO344 BK348); (case side2 => exact (Kd.R_reads' HO344.out).2.1); rintro e w31 ⟨v350, rfl, ho0, hb⟩; refine ⟨_, rfl, ?_⟩; have HO351 := Aside0.mk (Kd.R_lower (Kd.R_new' (Kd.R_new' (Kd.R_new' ho0 (Kd.R_lt (rf HO330 BK348))) (Kd.R_lt (rf HO336 BK348))) (Kd.R_lt (rf HO344 BK348))) (below_size (bs3 HB GE326 GE341 GE348))); replace HO330 := Aside0.mk (Kd.R_elder' (rf HO330 BK348) (Kd.R_base ho0) hb); replace HO336 := Aside0.mk (Kd.R_elder' (rf HO336 BK348) (Kd.R_base ho0) hb); replace HO344 := Aside0.mk (Kd.R_elder' (rf HO344 BK348) (Kd.R_base ho0) hb); replace BK326 := Aside0.mk (blk_below (bf BK326 NB326_348) hb); replace BK341 := Aside0.mk (blk_below (bf BK341 NB341_348) hb); replace BK348 := Aside0.mk (blk_below (g := gb348) (o := .cells #[.slice Ao27 t342.length co27, .int .i64 t345, .int .i64 t346, .int .i64 t347] 36 (0, 0)) (by (with_reducible repeat (first | refine blk_drewN ?_ _ | refine blk_drew ?_ | refine blk_alloc ?_ _)); refine blk_put (cs := #[.slice Ao27 t342.length co27, .int .i64 t345, .int .i64 t346, .int .i64 0]) ?_ 3 _ rfl; (with_reducible repeat (first | refine blk_drewN ?_ _ | refine blk_drew ?_ | refine blk_alloc ?_ _)); refine blk_put (cs := #[.slice Ao27 t342.length co27, .int .i64 t345, .int .i64 0, .int .i64 0]) ?_ 2 _ rfl; (with_reducible repeat (first | refine blk_drewN ?_ _ | refine blk_drew ?_ | refine blk_alloc ?_ _)); refine blk_put (cs := #[.slice Ao27 t342.length co27, .int .i64 0, .int .i64 0, .int .i64 0]) ?_ 1 _ rfl; (with_reducible repeat (first | refine blk_drewN ?_ _ | refine blk_drew ?_ | refine blk_alloc ?_ _)); refine blk_put (cs := #[.slice none 0 0, .int .i64 0, .int .i64 0, .int .i64 0]) ?_ 0 _ rfl; (with_reducible repeat (first | refine blk_drewN ?_ _ | refine blk_drew ?_ | refine blk_alloc ?_ _)); exact BK348.out) hb); replace HB := Aside0.mk (below_step (bs3 HB GE326 GE341 GE348) hb); (try clear hb); (try clear hb2); (try clear hk); (try clear hi); (try clear ho0)) | ((with_reducible refine gate_dst (N := 9) rfl ?_); refine box_event ?hg (N := 9) ?hd (cs := #[.slice none 0 0, .int .i64 0, .int .i64 0, .int .i64 0]) (t := 36) ?hr ?_; (case hd => rfl); (case hg => rfl); (case hr => first | (go_simp; done) | (go_simp; rfl)); intro gb356 hg w32 hbox hb; replace HO330 := nr HO330 hb; replace HO336 := nr HO336 hb; replace HO344 := nr HO344 hb; replace HO351 := nr HO351 hb; have BK356 := Aside0.mk (hbox); have GW356 := Aside0.mk ((by rw [hg]; exact (below_size (bs3 HB GE326 GE341 GE348)) : w.heap.size ≤ gb356)); have GE356 := Aside0.mk ((by rw [hg]; exact (below_size (bs3 HB GE326 GE341 GE348)) : w.heap.size ≤ gb356)); replace HB := Aside0.mk (below_step (bs3 HB GE326 GE341 GE348) hb); have NB326_356 := Aside0.mk ((bn BK326 hg : gb326 ≠ gb356)); have NB356_326 := Aside0.mk ((bm BK326 hg : gb356 ≠ gb326)); replace BK326 := nb BK326 hb; have NB341_356 := Aside0.mk ((bn BK341 hg : gb341 ≠ gb356)); have NB356_341 := Aside0.mk ((bm BK341 hg : gb356 ≠ gb341)); replace BK341 := nb BK341 hb; have NB348_356 := Aside0.mk ((bn BK348 hg : gb348 ≠ gb356)); have NB356_348 := Aside0.mk ((bm BK348 hg : gb356 ≠ gb348)); replace BK348 := nb BK348 hb; clear hb hbox hg; obtain ⟨Ao33, co33, eo33⟩ := Kd.R_slice HO351.out; subst eo33; have hnb34 := NB356_326.out; have hnc34 := NB326_356.out; have hnb35 := NB356_341.out; have hnc35 := NB341_356.out; have hnb36 := NB356_348.out; have hnc36 := NB348_356.out; obtain ⟨hcz37_0, hcz37_1, hcz37_2, hcz37_3⟩ := cz4 BK356; obtain ⟨hfz37_0, hfz37_1, hfz37_2, hfz37_3⟩ := fz4 BK356))
  (try simp only [Act.put, List.setIfInBounds_toArray, List.set_cons_zero, List.set_cons_succ])
  go_cut [44] (fun v44 wc => ∃ (kq : Nat) (x44_11 : Bool), v44 = .bool x44_11 ∧ Aside0 (laws_FnExactPushTail.j0 kq a1 t340 t355 x44_11 l0_0 a0_1 a0_2 a0_3 t334 t337 t338 t339 t342 t345 t346 t347 t349 t352 t353 t354 = some r) ∧ Aside0 (kq ≤ k) ∧ Aside0 (Kd.R k26 26 wc w.heap.size (fun k_ => some k_ ≠ ((.slice Ao27 t342.length co27) : Value).ownBlock ∧ some k_ ≠ ((.slice Ao33 t349.length co33) : Value).ownBlock) (.slice Ao21 t334.length co21) t334) ∧ Aside0 (Kd.R k26 26 wc w.heap.size (fun k_ => some k_ ≠ ((.slice Ao21 t334.length co21) : Value).ownBlock ∧ some k_ ≠ ((.slice Ao33 t349.length co33) : Value).ownBlock) (.slice Ao27 t342.length co27) t342) ∧ Aside0 (Kd.R k26 26 wc w.heap.size (fun k_ => some k_ ≠ ((.slice Ao21 t334.length co21) : Value).ownBlock ∧ some k_ ≠ ((.slice Ao27 t342.length co27) : Value).ownBlock) (.slice Ao33 t349.length co33) t349) ∧ Aside0 (wc.heap[gb326]? = some (.cells #[(.slice A0_0 l0_0.length c0_0), .int .i64 a0_1, .int .i64 a0_2, .int .i64 a0_3] 31 (0, 0))) ∧ Aside0 (wc.heap[gb341]? = some (.cells #[(.slice Ao21 t334.length co21), .int .i64 t337, .int .i64 t338, .int .i64 t339] 36 (0, 0))) ∧ Aside0 (wc.heap[gb348]? = some (.cells #[(.slice Ao27 t342.length co27), .int .i64 t345, .int .i64 t346, .int .i64 t347] 36 (0, 0))) ∧ Aside0 (wc.heap[gb356]? = some (.cells #[(.slice Ao33 t349.length co33), .int .i64 t352, .int .i64 t353, .int .i64 t354] 36 (0, 0))) ∧ Aside0 (Below w.heap.size w wc))
  case first =>
   have H := HC12.out
   clear HC12
   replace H := Option.bind_eq_some_iff.mp H
   obtain ⟨t357, A380, H⟩ := H
   replace H : (if t357 = true then (laws_FnExactPushTail.j0 k a1 t340 t355 (t355 != t340) l0_0 a0_1 a0_2 a0_3 t334 t337 t338 t339 t342 t345 t346 t347 t349 t352 t353 t354) else (laws_FnExactPushTail.j0 k a1 t340 t355 true l0_0 a0_1 a0_2 a0_3 t334 t337 t338 t339 t342 t345 t346 t347 t349 t352 t353 t354)) = some r := H
   have A38 := Aside0.mk A380
   clear A380
   by_cases c39 : t357 = true
   ·
    subst c39
    rw [if_pos rfl] at H
    have H' := Aside0.mk H
    clear H
    have hnb40 := NB356_326.out
    have hnc40 := NB326_356.out
    have hnb41 := NB356_341.out
    have hnc41 := NB341_356.out
    have hnb42 := NB356_348.out
    have hnc42 := NB348_356.out
    obtain ⟨hcz43_0, hcz43_1, hcz43_2, hcz43_3⟩ := cz4 BK356
    obtain ⟨hfz43_0, hfz43_1, hfz43_2, hfz43_3⟩ := fz4 BK356
    have hnb44 := NB341_326.out
    have hnc44 := NB326_341.out
    have hnb45 := NB341_348.out
    have hnc45 := NB348_341.out
    obtain ⟨hcz46_0, hcz46_1, hcz46_2, hcz46_3⟩ := cz4 BK341
    obtain ⟨hfz46_0, hfz46_1, hfz46_2, hfz46_3⟩ := fz4 BK341
    go_wp2_with (first | ((with_reducible refine gate_callee (f := 21) rfl ?_); refine gL (some 38) rfl rfl Tryd.func21 (by kernel_rfl) rfl #[.agg #[.slice Ao33 t349.length co33, .int .i64 t352, .int .i64 t353, .int .i64 t354], .agg #[.slice Ao21 t334.length co21, .int .i64 t337, .int .i64 t338, .int .i64 t339]] rfl ?_; (with_reducible refine (laws_eqRing.calls k _ _ t349 t352 t353 t354 _ _ t334 t337 t338 t339 true _ ?side1 ?side2 ?side3 ?side4 A38.out).mono ?_); (case side1 => exact rc HO351 BK356); (case side2 => exact (Kd.R_reads' HO351.out).2.1); (case side3 => exact rc HO336 BK356); (case side4 => exact (Kd.R_reads' HO336.out).2.1); rintro e w47 ⟨rfl, hb⟩; refine ⟨_, rfl, ?_⟩; replace HO330 := nf HO330 BK356 hb; replace HO336 := nf HO336 BK356 hb; replace HO344 := nf HO344 BK356 hb; replace HO351 := nf HO351 BK356 hb; replace BK326 := Aside0.mk (blk_below (bf BK326 NB326_356) hb); replace BK341 := Aside0.mk (blk_below (bf BK341 NB341_356) hb); replace BK348 := Aside0.mk (blk_below (bf BK348 NB348_356) hb); replace BK356 := Aside0.mk (blk_below (g := gb356) (o := .cells #[.slice Ao33 t349.length co33, .int .i64 t352, .int .i64 t353, .int .i64 t354] 36 (0, 0)) (by (with_reducible repeat (first | refine blk_drewN ?_ _ | refine blk_drew ?_ | refine blk_alloc ?_ _)); refine blk_put (cs := #[.slice Ao33 t349.length co33, .int .i64 t352, .int .i64 t353, .int .i64 0]) ?_ 3 _ rfl; (with_reducible repeat (first | refine blk_drewN ?_ _ | refine blk_drew ?_ | refine blk_alloc ?_ _)); refine blk_put (cs := #[.slice Ao33 t349.length co33, .int .i64 t352, .int .i64 0, .int .i64 0]) ?_ 2 _ rfl; (with_reducible repeat (first | refine blk_drewN ?_ _ | refine blk_drew ?_ | refine blk_alloc ?_ _)); refine blk_put (cs := #[.slice Ao33 t349.length co33, .int .i64 0, .int .i64 0, .int .i64 0]) ?_ 1 _ rfl; (with_reducible repeat (first | refine blk_drewN ?_ _ | refine blk_drew ?_ | refine blk_alloc ?_ _)); refine blk_put (cs := #[.slice none 0 0, .int .i64 0, .int .i64 0, .int .i64 0]) ?_ 0 _ rfl; (with_reducible repeat (first | refine blk_drewN ?_ _ | refine blk_drew ?_ | refine blk_alloc ?_ _)); exact BK356.out) hb); replace HB := Aside0.mk (below_step (bs4 HB GE326 GE341 GE348 GE356) hb); (try clear hb); (try clear hb2); (try clear hk); (try clear hi)))
    go_meet
    case rel => exact ⟨_, ((t355 != t340)), (by first | rfl | (simp; done) | (simp [*]; done)), H', ⟨by first | omega | exact Nat.le_refl _⟩, rm HO336 (fun _ hk => ⟨hk.1.2, hk.2⟩), rm HO344 (fun _ hk => ⟨hk.1.2, hk.2⟩), rm HO351 (fun _ hk => ⟨hk.1.2, hk.2⟩), ⟨bk BK326⟩, ⟨bk BK341⟩, ⟨bk BK348⟩, ⟨bk BK356⟩, ⟨bs4 HB GE326 GE341 GE348 GE356⟩⟩
   ·
    replace c39 := Bool.eq_false_iff.mpr c39
    subst c39
    rw [if_neg (show ¬ (false = true) by decide)] at H
    have H' := Aside0.mk H
    clear H
    have hnb48 := NB356_326.out
    have hnc48 := NB326_356.out
    have hnb49 := NB356_341.out
    have hnc49 := NB341_356.out
    have hnb50 := NB356_348.out
    have hnc50 := NB348_356.out
    obtain ⟨hcz51_0, hcz51_1, hcz51_2, hcz51_3⟩ := cz4 BK356
    obtain ⟨hfz51_0, hfz51_1, hfz51_2, hfz51_3⟩ := fz4 BK356
    have hnb52 := NB341_326.out
    have hnc52 := NB326_341.out
    have hnb53 := NB341_348.out
    have hnc53 := NB348_341.out
    obtain ⟨hcz54_0, hcz54_1, hcz54_2, hcz54_3⟩ := cz4 BK341
    obtain ⟨hfz54_0, hfz54_1, hfz54_2, hfz54_3⟩ := fz4 BK341
    go_wp2_with (first | ((with_reducible refine gate_callee (f := 21) rfl ?_); refine gL (some 38) rfl rfl Tryd.func21 (by kernel_rfl) rfl #[.agg #[.slice Ao33 t349.length co33, .int .i64 t352, .int .i64 t353, .int .i64 t354], .agg #[.slice Ao21 t334.length co21, .int .i64 t337, .int .i64 t338, .int .i64 t339]] rfl ?_; (with_reducible refine (laws_eqRing.calls k _ _ t349 t352 t353 t354 _ _ t334 t337 t338 t339 false _ ?side1 ?side2 ?side3 ?side4 A38.out).mono ?_); (case side1 => exact rc HO351 BK356); (case side2 => exact (Kd.R_reads' HO351.out).2.1); (case side3 => exact rc HO336 BK356); (case side4 => exact (Kd.R_reads' HO336.out).2.1); rintro e w55 ⟨rfl, hb⟩; refine ⟨_, rfl, ?_⟩; replace HO330 := nf HO330 BK356 hb; replace HO336 := nf HO336 BK356 hb; replace HO344 := nf HO344 BK356 hb; replace HO351 := nf HO351 BK356 hb; replace BK326 := Aside0.mk (blk_below (bf BK326 NB326_356) hb); replace BK341 := Aside0.mk (blk_below (bf BK341 NB341_356) hb); replace BK348 := Aside0.mk (blk_below (bf BK348 NB348_356) hb); replace BK356 := Aside0.mk (blk_below (g := gb356) (o := .cells #[.slice Ao33 t349.length co33, .int .i64 t352, .int .i64 t353, .int .i64 t354] 36 (0, 0)) (by (with_reducible repeat (first | refine blk_drewN ?_ _ | refine blk_drew ?_ | refine blk_alloc ?_ _)); refine blk_put (cs := #[.slice Ao33 t349.length co33, .int .i64 t352, .int .i64 t353, .int .i64 0]) ?_ 3 _ rfl; (with_reducible repeat (first | refine blk_drewN ?_ _ | refine blk_drew ?_ | refine blk_alloc ?_ _)); refine blk_put (cs := #[.slice Ao33 t349.length co33, .int .i64 t352, .int .i64 0, .int .i64 0]) ?_ 2 _ rfl; (with_reducible repeat (first | refine blk_drewN ?_ _ | refine blk_drew ?_ | refine blk_alloc ?_ _)); refine blk_put (cs := #[.slice Ao33 t349.length co33, .int .i64 0, .int .i64 0, .int .i64 0]) ?_ 1 _ rfl; (with_reducible repeat (first | refine blk_drewN ?_ _ | refine blk_drew ?_ | refine blk_alloc ?_ _)); refine blk_put (cs := #[.slice none 0 0, .int .i64 0, .int .i64 0, .int .i64 0]) ?_ 0 _ rfl; (with_reducible repeat (first | refine blk_drewN ?_ _ | refine blk_drew ?_ | refine blk_alloc ?_ _)); exact BK356.out) hb); replace HB := Aside0.mk (below_step (bs4 HB GE326 GE341 GE348 GE356) hb); (try clear hb); (try clear hb2); (try clear hk); (try clear hi)))
    go_meet
    case rel => exact ⟨_, (true), (by first | rfl | (simp; done) | (simp [*]; done)), H', ⟨by first | omega | exact Nat.le_refl _⟩, rm HO336 (fun _ hk => ⟨hk.1.2, hk.2⟩), rm HO344 (fun _ hk => ⟨hk.1.2, hk.2⟩), rm HO351 (fun _ hk => ⟨hk.1.2, hk.2⟩), ⟨bk BK326⟩, ⟨bk BK341⟩, ⟨bk BK348⟩, ⟨bk BK356⟩, ⟨bs4 HB GE326 GE341 GE348 GE356⟩⟩
  case rest =>
   clear HC12
   try clear c1
   try clear c2
   try clear p2
   try clear c3
   try clear c4
   try clear c4b0
   try clear c5
   try clear c9
   try clear c17
   try clear c19
   try clear c21
   try clear c22
   try clear c28
   try clear c29
   try clear c34
   try clear c35
   try clear c36
   try clear c39
   try clear c40
   try clear c41
   try clear c42
   try clear c44
   try clear c45
   try clear c48
   try clear c49
   try clear c50
   try clear c52
   try clear c53
   try clear hcz14_0 hcz14_1 hcz14_2 hcz14_3
   try clear hcz16_0 hcz16_1 hcz16_2 hcz16_3
   try clear hcz23_0 hcz23_1 hcz23_2 hcz23_3
   try clear hcz24_0 hcz24_1 hcz24_2 hcz24_3
   try clear hcz30_0 hcz30_1 hcz30_2 hcz30_3
   try clear hcz37_0 hcz37_1 hcz37_2 hcz37_3
   try clear hcz43_0 hcz43_1 hcz43_2 hcz43_3
   try clear hcz46_0 hcz46_1 hcz46_2 hcz46_3
   try clear hcz51_0 hcz51_1 hcz51_2 hcz51_3
   try clear hcz54_0 hcz54_1 hcz54_2 hcz54_3
   try clear hcz6_0 hcz6_1 hcz6_2 hcz6_3
   try clear hfz14_0 hfz14_1 hfz14_2 hfz14_3
   try clear hfz16_0 hfz16_1 hfz16_2 hfz16_3
   try clear hfz23_0 hfz23_1 hfz23_2 hfz23_3
   try clear hfz24_0 hfz24_1 hfz24_2 hfz24_3
   try clear hfz30_0 hfz30_1 hfz30_2 hfz30_3
   try clear hfz37_0 hfz37_1 hfz37_2 hfz37_3
   try clear hfz43_0 hfz43_1 hfz43_2 hfz43_3
   try clear hfz46_0 hfz46_1 hfz46_2 hfz46_3
   try clear hfz51_0 hfz51_1 hfz51_2 hfz51_3
   try clear hfz54_0 hfz54_1 hfz54_2 hfz54_3
   try clear hfz6_0 hfz6_1 hfz6_2 hfz6_3
   obtain ⟨kq, x44_11, rfl, HA, HJ11, HO_342000, HO_349000, HO_357000, BK326, BK341, BK348, BK356, HB⟩ := hcut
   cases kq with
   | zero => exact absurd HA.out (by simp [laws_FnExactPushTail.j0])
   | succ kj11 =>
    have H := HA.out
    clear HA
    simp only [laws_FnExactPushTail.j0] at H
    by_cases c56 : x44_11 = true
    ·
     subst c56
     rw [if_pos rfl] at H
     obtain rfl := Option.some.inj H
     go_wp2
     go_ret
     exact ⟨by first | rfl | (simp [errW_none, errW_some] <;> rfl) | (simp [*, errW_none, errW_some] <;> rfl), bs4 HB GE326 GE341 GE348 GE356⟩
    ·
     replace c56 := Bool.eq_false_iff.mpr c56
     subst c56
     rw [if_neg (show ¬ (false = true) by decide)] at H
     replace H := Option.bind_eq_some_iff.mp H
     obtain ⟨⟨t358, t361, t362, t363⟩, A570, H⟩ := H
     replace H : ((laws_eqRing.f kj11 t342 t345 t346 t347 t358 t361 t362 t363).bind fun t364 => (if t364 = true then ((laws_markRing.f kj11 t342 t345 t346 t347 1).bind fun bt365 => (if bt365.1 < 0 then (laws_FnExactPushTail.j1 kj11 a1 t340 true l0_0 a0_1 a0_2 a0_3 t334 t337 t338 t339 t349 t352 t353 t354) else ((laws_eqRing.f kj11 t349 t352 t353 t354 t334 t337 t338 t339).bind fun t367 => (if t367 = true then (laws_FnExactPushTail.j1 kj11 a1 t340 (t355 != t340) l0_0 a0_1 a0_2 a0_3 t334 t337 t338 t339 t349 t352 t353 t354) else (laws_FnExactPushTail.j1 kj11 a1 t340 true l0_0 a0_1 a0_2 a0_3 t334 t337 t338 t339 t349 t352 t353 t354))))) else (some false))) = some r := H
     have A57 := Aside0.mk A570
     clear A570
     replace H := Option.bind_eq_some_iff.mp H
     obtain ⟨t364, A580, H⟩ := H
     replace H : (if t364 = true then ((laws_markRing.f kj11 t342 t345 t346 t347 1).bind fun bt365 => (if bt365.1 < 0 then (laws_FnExactPushTail.j1 kj11 a1 t340 true l0_0 a0_1 a0_2 a0_3 t334 t337 t338 t339 t349 t352 t353 t354) else ((laws_eqRing.f kj11 t349 t352 t353 t354 t334 t337 t338 t339).bind fun t367 => (if t367 = true then (laws_FnExactPushTail.j1 kj11 a1 t340 (t355 != t340) l0_0 a0_1 a0_2 a0_3 t334 t337 t338 t339 t349 t352 t353 t354) else (laws_FnExactPushTail.j1 kj11 a1 t340 true l0_0 a0_1 a0_2 a0_3 t334 t337 t338 t339 t349 t352 t353 t354))))) else (some false)) = some r := H
     have A58 := Aside0.mk A580
     clear A580
     by_cases c59 : t364 = true
     ·
      subst c59
      rw [if_pos rfl] at H
      replace H := Option.bind_eq_some_iff.mp H
      obtain ⟨⟨t365, t366⟩, A600, H⟩ := H
      replace H : (if t365 < 0 then (laws_FnExactPushTail.j1 kj11 a1 t340 true l0_0 a0_1 a0_2 a0_3 t334 t337 t338 t339 t349 t352 t353 t354) else ((laws_eqRing.f kj11 t349 t352 t353 t354 t334 t337 t338 t339).bind fun t367 => (if t367 = true then (laws_FnExactPushTail.j1 kj11 a1 t340 (t355 != t340) l0_0 a0_1 a0_2 a0_3 t334 t337 t338 t339 t349 t352 t353 t354) else (laws_FnExactPushTail.j1 kj11 a1 t340 true l0_0 a0_1 a0_2 a0_3 t334 t337 t338 t339 t349 t352 t353 t354)))) = some r := H
      have A60 := Aside0.mk A600
      clear A600
      have HC61 := Aside0.mk H
      clear H
      try go_wp2
      have n0_ := Aside0.mk (Kd.R_drew HO_342000.out)
      have n1_ := Aside0.mk (Kd.R_drew HO_349000.out)
      have n2_ := Aside0.mk (Kd.R_drew HO_357000.out)
      have n3_ := Aside0.mk (blk_drew BK326.out)
      have n4_ := Aside0.mk (blk_drew BK341.out)
      have n5_ := Aside0.mk (blk_drew BK348.out)
      have n6_ := Aside0.mk (blk_drew BK356.out)
      have n7_ := Aside0.mk (below_drew1 HB.out)
      clear HO_342000
      clear HO_349000
      clear HO_357000
      clear BK326
      clear BK341
      clear BK348
      clear BK356
      clear HB
      have HO_342000 := n0_
      have HO_349000 := n1_
      have HO_357000 := n2_
      have BK326 := n3_
      have BK341 := n4_
      have BK348 := n5_
      have BK356 := n6_
      have HB := n7_
      clear n0_ n1_ n2_ n3_ n4_ n5_ n6_ n7_
      refine start_ (n := 5) (S := fun w' => w'.cell? ⟨gb348, 0, none⟩ = some (.slice Ao27 t342.length co27) ∧ w'.cell? ⟨gb348, 1, none⟩ = some (.int .i64 t345) ∧ w'.cell? ⟨gb348, 2, none⟩ = some (.int .i64 t346) ∧ w'.cell? ⟨gb348, 3, none⟩ = some (.int .i64 t347) ∧ w'.cell? ⟨gb326, 0, none⟩ = some (.slice A0_0 l0_0.length c0_0) ∧ w'.cell? ⟨gb326, 1, none⟩ = some (.int .i64 a0_1) ∧ w'.cell? ⟨gb326, 2, none⟩ = some (.int .i64 a0_2) ∧ w'.cell? ⟨gb326, 3, none⟩ = some (.int .i64 a0_3)) (ds := []) #[false, false, false, false, false] (by kernel_rfl) rfl rfl ⟨(blk_cell BK348.out 0).trans rfl, (blk_cell BK348.out 1).trans rfl, (blk_cell BK348.out 2).trans rfl, (blk_cell BK348.out 3).trans rfl, (blk_cell BK326.out 0).trans rfl, (blk_cell BK326.out 1).trans rfl, (blk_cell BK326.out 2).trans rfl, (blk_cell BK326.out 3).trans rfl⟩ (fun hHeld => ?_)
      generalize wc.drew = w62 at HO_342000 HO_349000 HO_357000 BK326 BK341 BK348 BK356 HB hHeld ⊢
      refine take_ (i := 0) (N := some 45) (v := ?_) (a' := ?_) #[true, false, false, false, false] rfl rfl (by kernel_rfl) (fun _ _ _ h => h) (Or.inl ⟨by rfl, ?_⟩) hHeld ?_ ?_
      rotate_left
      ·
       rintro w' ⟨s0, s1, s2, s3, s4, s5, s6, s7⟩
       go_simp
       with_reducible rfl
      rotate_left
      ·
       simp only [Act.put, List.setIfInBounds_toArray, List.set_cons_zero, List.set_cons_succ, i64_w, i32_w]
       rfl
      refine take_ (i := 1) (N := some 46) (v := ?_) (a' := ?_) #[true, true, false, false, false] rfl rfl (by kernel_rfl) (fun _ _ _ h => h) (Or.inl ⟨by rfl, ?_⟩) hHeld ?_ ?_
      rotate_left
      ·
       rintro w' ⟨s0, s1, s2, s3, s4, s5, s6, s7⟩
       go_simp
       with_reducible rfl
      rotate_left
      ·
       simp only [Act.put, List.setIfInBounds_toArray, List.set_cons_zero, List.set_cons_succ, i64_w, i32_w]
       rfl
      refine one_ (i := 2) (N := some 47) #[true, true, true, false, false] rfl rfl (by kernel_rfl) (by decide) (fun K hK => ?_)
      refine goes_ Tryd.func19 (by kernel_rfl) rfl #[.agg #[.slice A0_0 l0_0.length c0_0, .int .i64 a0_1, .int .i64 a0_2, .int .i64 a0_3]] (by rfl) rfl rfl (by (try simp only [List.map_toArray, List.map_cons, List.map_nil]); first | done | rfl | (simp only [List.length_drop, List.length_take]; rfl)) ?_
      with_reducible refine (laws_toRing.calls kj11 _ _ l0_0 a0_1 a0_2 a0_3 t358 t361 t362 t363 _ ?side1 ?side2 A57.out).mono ?_
      (case side1 => exact cb HR0_0 HB)
      (case side2 => exact HC0_0.out)
      rintro e w63 ⟨v359, rfl, ho0, hb⟩
      refine ⟨_, rfl, ?_⟩
      have n0_ := Aside0.mk (Kd.R_elder' (rr HO_342000.out) (Kd.R_base ho0) hb)
      have n1_ := Aside0.mk (Kd.R_elder' (rr HO_349000.out) (Kd.R_base ho0) hb)
      have n2_ := Aside0.mk (Kd.R_elder' (rr HO_357000.out) (Kd.R_base ho0) hb)
      have n3_ := Aside0.mk (Kd.R_lower (Kd.R_new' (Kd.R_new' (Kd.R_new' ho0 (Kd.R_lt (rr HO_342000.out))) (Kd.R_lt (rr HO_349000.out))) (Kd.R_lt (rr HO_357000.out))) (below_size (bs4 HB GE326 GE341 GE348 GE356)))
      have n4_ := Aside0.mk (bb BK326 hb)
      have n5_ := Aside0.mk (bb BK341 hb)
      have n6_ := Aside0.mk (bb BK348 hb)
      have n7_ := Aside0.mk (bb BK356 hb)
      have n8_ := Aside0.mk (below_step (bs4 HB GE326 GE341 GE348 GE356) hb)
      clear HO_342000
      clear HO_349000
      clear HO_357000
      clear BK326
      clear BK341
      clear BK348
      clear BK356
      clear HB
      have HO_342000 := n0_
      have HO_349000 := n1_
      have HO_357000 := n2_
      have HO360 := n3_
      have BK326 := n4_
      have BK341 := n5_
      have BK348 := n6_
      have BK356 := n7_
      have HB := n8_
      clear n0_ n1_ n2_ n3_ n4_ n5_ n6_ n7_ n8_
      (try clear hb)
      (try clear hb2)
      (try clear hk)
      (try clear hi)
      (try clear ho0)
      obtain ⟨Ao64, co64, eo64⟩ := Kd.R_slice HO360.out
      (first | subst eo64 | (injection eo64 with f1_ f2_ f3_; have f4_ := f1_.symm; have f5_ := f3_.symm; clear f1_ f2_ f3_; subst f4_; subst f5_))
      refine hK.out _ _ ⟨(blk_cell BK348.out 0).trans rfl, (blk_cell BK348.out 1).trans rfl, (blk_cell BK348.out 2).trans rfl, (blk_cell BK348.out 3).trans rfl, (blk_cell BK326.out 0).trans rfl, (blk_cell BK326.out 1).trans rfl, (blk_cell BK326.out 2).trans rfl, (blk_cell BK326.out 3).trans rfl⟩ (fun hHeld => ?_)
      clear hK K
      refine norm_ (a' := ?_) ?_ ?_
      rotate_left
      ·
       show Act.put _ (some 47) _ = _
       simp only [Act.put, List.setIfInBounds_toArray, List.set_cons_zero, List.set_cons_succ, i64_w, i32_w]
       rfl
      refine one_ (i := 3) (N := some 48) #[true, true, true, true, false] rfl rfl (by kernel_rfl) (by decide) (fun K hK => ?_)
      refine goes_ Tryd.func21 (by kernel_rfl) rfl #[.agg #[.slice Ao27 t342.length co27, .int .i64 t345, .int .i64 t346, .int .i64 t347], .agg #[.slice Ao64 t358.length co64, .int .i64 t361, .int .i64 t362, .int .i64 t363]] (by rfl) rfl rfl (by (try simp only [List.map_toArray, List.map_cons, List.map_nil]); first | done | rfl | (simp only [List.length_drop, List.length_take]; rfl)) ?_
      with_reducible refine (laws_eqRing.calls kj11 _ _ t342 t345 t346 t347 _ _ t358 t361 t362 t363 true _ ?side1 ?side2 ?side3 ?side4 A58.out).mono ?_
      (case side1 => exact rc0 HO_349000)
      (case side2 => exact (Kd.R_reads' HO_349000.out).2.1)
      (case side3 => exact rc0 HO360)
      (case side4 => exact (Kd.R_reads' HO360.out).2.1)
      rintro e w65 ⟨rfl, hb⟩
      refine ⟨_, rfl, ?_⟩
      have n0_ := Aside0.mk (Kd.R_below (rr HO_342000.out) hb)
      have n1_ := Aside0.mk (Kd.R_below (rr HO_349000.out) hb)
      have n2_ := Aside0.mk (Kd.R_below (rr HO_357000.out) hb)
      have n3_ := Aside0.mk (Kd.R_below (rr HO360.out) hb)
      have n4_ := Aside0.mk (bb BK326 hb)
      have n5_ := Aside0.mk (bb BK341 hb)
      have n6_ := Aside0.mk (bb BK348 hb)
      have n7_ := Aside0.mk (bb BK356 hb)
      have n8_ := Aside0.mk (below_step (bs4 HB GE326 GE341 GE348 GE356) hb)
      clear HO_342000
      clear HO_349000
      clear HO_357000
      clear HO360
      clear BK326
      clear BK341
      clear BK348
      clear BK356
      clear HB
      have HO_342000 := n0_
      have HO_349000 := n1_
      have HO_357000 := n2_
      have HO360 := n3_
      have BK326 := n4_
      have BK341 := n5_
      have BK348 := n6_
      have BK356 := n7_
      have HB := n8_
      clear n0_ n1_ n2_ n3_ n4_ n5_ n6_ n7_ n8_
      (try clear hb)
      (try clear hb2)
      (try clear hk)
      (try clear hi)
      refine hK.out _ _ ⟨(blk_cell BK348.out 0).trans rfl, (blk_cell BK348.out 1).trans rfl, (blk_cell BK348.out 2).trans rfl, (blk_cell BK348.out 3).trans rfl, (blk_cell BK326.out 0).trans rfl, (blk_cell BK326.out 1).trans rfl, (blk_cell BK326.out 2).trans rfl, (blk_cell BK326.out 3).trans rfl⟩ (fun hHeld => ?_)
      clear hK K
      refine norm_ (a' := ?_) ?_ ?_
      rotate_left
      ·
       show Act.put _ (some 48) _ = _
       simp only [Act.put, List.setIfInBounds_toArray, List.set_cons_zero, List.set_cons_succ, i64_w, i32_w]
       rfl
      refine pure_ (i := 4) (N := some 49) (v := ?_) (a' := ?_) #[true, true, true, true, true] rfl rfl (by kernel_rfl) (fun _ _ _ h => h) (Or.inl ⟨by rfl, ?_⟩) ?_ ?_
      rotate_left
      ·
       intro w'
       go_simp
       with_reducible rfl
      rotate_left
      ·
       simp only [Act.put, List.setIfInBounds_toArray, List.set_cons_zero, List.set_cons_succ, i64_w, i32_w]
       rfl
      refine done_ (by kernel_rfl) ?_
      have hnb66 := NB348_326.out
      have hnc66 := NB326_348.out
      have hnb67 := NB348_341.out
      have hnc67 := NB341_348.out
      have hnb68 := NB348_356.out
      have hnc68 := NB356_348.out
      obtain ⟨hcz69_0, hcz69_1, hcz69_2, hcz69_3⟩ := cz4 BK348
      obtain ⟨hfz69_0, hfz69_1, hfz69_2, hfz69_3⟩ := fz4 BK348
      go_upto_region 14 with (first | ((with_reducible refine gate_callee (f := 24) rfl ?_); refine gL (some 52) rfl rfl Tryd.func24 (by kernel_rfl) rfl #[.agg #[.slice Ao27 t342.length co27, .int .i64 t345, .int .i64 t346, .int .i64 t347], .int .i64 1] rfl ?_; (with_reducible refine (laws_markRing.calls kj11 (fun k_ => some k_ = (.slice Ao27 t342.length co27 : Value).ownBlock) (.slice Ao27 t342.length co27) t342 t345 t346 t347 1 t365 t366 w _ ?side1 ?side2 A60.out).mono ?_); (case side1 => repeat (first | (with_reducible first | exact HB.out | apply below_alloc | apply pw_below_drewN | apply below_drew1 | refine below_set ?_ GE326.out | refine below_set ?_ GE341.out | refine below_set ?_ GE348.out | refine below_set ?_ GE356.out) | exact HB.out)); (case side2 => exact Kd.R_tight rfl HO_349000.out); rintro e w70 ⟨rfl, hy0, hb, hkp⟩; refine ⟨_, rfl, ?_⟩; replace HO_342000 := Aside0.mk (Kd.R_mono (ok' := fun k_ => some k_ ≠ (.slice Ao27 t342.length co27 : Value).ownBlock ∧ some k_ ≠ (.slice Ao33 t349.length co33 : Value).ownBlock ∧ some k_ ≠ (.slice Ao64 t358.length co64 : Value).ownBlock) (Kd.R_keptB (HO_342000.out) hkp (fun k_ hk_ hs_ => (hk_.1.1) hs_)) (fun k_ hk_ => ⟨hk_.1.1.1, hk_.1.1.2, hk_.1.2⟩)); replace HO_357000 := Aside0.mk (Kd.R_mono (ok' := fun k_ => some k_ ≠ (.slice Ao21 t334.length co21 : Value).ownBlock ∧ some k_ ≠ (.slice Ao27 t342.length co27 : Value).ownBlock ∧ some k_ ≠ (.slice Ao64 t358.length co64 : Value).ownBlock) (Kd.R_keptB (HO_357000.out) hkp (fun k_ hk_ hs_ => (hk_.1.2) hs_)) (fun k_ hk_ => ⟨hk_.1.1.1, hk_.1.1.2, hk_.1.2⟩)); replace BK326 := Aside0.mk (blk_kept (bk BK326) hkp (fun hs_ => (fun e_ => (Kd.R_ne HO_349000.out BK326.out (by decide)) e_) hs_)); replace BK341 := Aside0.mk (blk_kept (bk BK341) hkp (fun hs_ => (fun e_ => (Kd.R_ne HO_349000.out BK341.out (by decide)) e_) hs_)); replace BK348 := Aside0.mk (blk_kept (bk BK348) hkp (fun hs_ => (fun e_ => (Kd.R_ne HO_349000.out BK348.out (by decide)) e_) hs_)); replace BK356 := Aside0.mk (blk_kept (bk BK356) hkp (fun hs_ => (fun e_ => (Kd.R_ne HO_349000.out BK356.out (by decide)) e_) hs_)); replace HO_349000 := Aside0.mk (Kd.R_reok rfl hy0 (fun k_ e_ => HO_349000.out.1 k_ e_)); replace HO360 := Aside0.mk (Kd.R_mono (ok' := fun k_ => some k_ ≠ (.slice Ao21 t334.length co21 : Value).ownBlock ∧ some k_ ≠ (.slice Ao27 t342.length co27 : Value).ownBlock ∧ some k_ ≠ (.slice Ao33 t349.length co33 : Value).ownBlock) (Kd.R_keptB (HO360.out) hkp (fun k_ hk_ hs_ => (hk_.1.2) hs_)) (fun k_ hk_ => ⟨hk_.1.1.1.2, hk_.1.1.2, hk_.1.2⟩)); replace HB := Aside0.mk (hb); (try clear hb); (try clear hkp); (try clear hy0)))
      (try simp only [Act.put, List.setIfInBounds_toArray, List.set_cons_zero, List.set_cons_succ])
      go_cut [65] (fun v65 wc => ∃ (kq : Nat) (x65_60 : Bool), v65 = .bool x65_60 ∧ Aside0 (laws_FnExactPushTail.j1 kq a1 t340 x65_60 l0_0 a0_1 a0_2 a0_3 t334 t337 t338 t339 t349 t352 t353 t354 = some r) ∧ Aside0 (kq ≤ kj11) ∧ Aside0 (Kd.R k26 26 wc w.heap.size (fun k_ => some k_ ≠ ((.slice Ao27 t342.length co27) : Value).ownBlock ∧ some k_ ≠ ((.slice Ao33 t349.length co33) : Value).ownBlock) (.slice Ao21 t334.length co21) t334) ∧ Aside0 (Kd.R k26 26 wc w.heap.size (fun k_ => some k_ ≠ ((.slice Ao21 t334.length co21) : Value).ownBlock ∧ some k_ ≠ ((.slice Ao33 t349.length co33) : Value).ownBlock) (.slice Ao27 t342.length co27) t366) ∧ Aside0 (Kd.R k26 26 wc w.heap.size (fun k_ => some k_ ≠ ((.slice Ao21 t334.length co21) : Value).ownBlock ∧ some k_ ≠ ((.slice Ao27 t342.length co27) : Value).ownBlock) (.slice Ao33 t349.length co33) t349) ∧ Aside0 (wc.heap[gb326]? = some (.cells #[(.slice A0_0 l0_0.length c0_0), .int .i64 a0_1, .int .i64 a0_2, .int .i64 a0_3] 31 (0, 0))) ∧ Aside0 (wc.heap[gb341]? = some (.cells #[(.slice Ao21 t334.length co21), .int .i64 t337, .int .i64 t338, .int .i64 t339] 36 (0, 0))) ∧ Aside0 (wc.heap[gb348]? = some (.cells #[(.slice Ao27 t342.length co27), .int .i64 t345, .int .i64 t346, .int .i64 t347] 36 (0, 0))) ∧ Aside0 (wc.heap[gb356]? = some (.cells #[(.slice Ao33 t349.length co33), .int .i64 t352, .int .i64 t353, .int .i64 t354] 36 (0, 0))) ∧ Aside0 (Below w.heap.size w wc))
      case first =>
       have H := HC61.out
       clear HC61
       by_cases c71 : t365 < 0
       ·
        rw [if_pos c71] at H
        have c71b0 : decide (t365 < 0) = true := decide_eq_true c71
        clear c71
        (first | rw [c71b0] | (simp only [i64_w, i32_w]; rw [c71b0]) | (simp only [c71b2, Bool.not_false, Bool.not_true]) | skip)
        have H' := Aside0.mk H
        clear H
        go_wp2
        go_meet
        case rel => exact ⟨_, (true), (by first | rfl | (simp; done) | (simp [*]; done)), H', ⟨by have := HJ11.out; first | omega | exact Nat.le_refl _⟩, rm HO_342000 (fun _ hk => ⟨hk.1, hk.2.1⟩), rm HO_349000 (fun _ hk => ⟨hk.1.1, hk.1.2⟩), rm HO_357000 (fun _ hk => ⟨hk.1, hk.2.1⟩), ⟨bk BK326⟩, ⟨bk BK341⟩, ⟨bk BK348⟩, ⟨bk BK356⟩, ⟨bs4 HB GE326 GE341 GE348 GE356⟩⟩
       ·
        rw [if_neg c71] at H
        have c71b0 : decide (t365 < 0) = false := decide_eq_false c71
        clear c71
        (first | rw [c71b0] | (simp only [i64_w, i32_w]; rw [c71b0]) | (simp only [c71b2, Bool.not_false, Bool.not_true]) | skip)
        replace H := Option.bind_eq_some_iff.mp H
        obtain ⟨t367, A720, H⟩ := H
        replace H : (if t367 = true then (laws_FnExactPushTail.j1 kj11 a1 t340 (t355 != t340) l0_0 a0_1 a0_2 a0_3 t334 t337 t338 t339 t349 t352 t353 t354) else (laws_FnExactPushTail.j1 kj11 a1 t340 true l0_0 a0_1 a0_2 a0_3 t334 t337 t338 t339 t349 t352 t353 t354)) = some r := H
        have A72 := Aside0.mk A720
        clear A720
        by_cases c73 : t367 = true
        ·
         subst c73
         rw [if_pos rfl] at H
         have H' := Aside0.mk H
         clear H
         have hnb74 := NB356_326.out
         have hnc74 := NB326_356.out
         have hnb75 := NB356_341.out
         have hnc75 := NB341_356.out
         have hnb76 := NB356_348.out
         have hnc76 := NB348_356.out
         obtain ⟨hcz77_0, hcz77_1, hcz77_2, hcz77_3⟩ := cz4 BK356
         obtain ⟨hfz77_0, hfz77_1, hfz77_2, hfz77_3⟩ := fz4 BK356
         have hnb78 := NB341_326.out
         have hnc78 := NB326_341.out
         have hnb79 := NB341_348.out
         have hnc79 := NB348_341.out
         obtain ⟨hcz80_0, hcz80_1, hcz80_2, hcz80_3⟩ := cz4 BK341
         obtain ⟨hfz80_0, hfz80_1, hfz80_2, hfz80_3⟩ := fz4 BK341
         go_wp2_with (first | (go_at_call 21; (with_reducible refine (laws_eqRing.calls kj11 _ _ t349 t352 t353 t354 _ _ t334 t337 t338 t339 true _ ?side1 ?side2 ?side3 ?side4 A72.out).mono ?_); (case side1 => exact rc0 HO_357000); (case side2 => exact (Kd.R_reads' HO_357000.out).2.1); (case side3 => exact rc0 HO_342000); (case side4 => exact (Kd.R_reads' HO_342000.out).2.1); rintro e w81 ⟨rfl, hb⟩; replace HO_342000 := nr HO_342000 hb; replace HO_349000 := nr HO_349000 hb; replace HO_357000 := nr HO_357000 hb; replace HO360 := nr HO360 hb; replace BK326 := nb BK326 hb; replace BK341 := nb BK341 hb; replace BK348 := nb BK348 hb; replace BK356 := nb BK356 hb; replace HB := Aside0.mk (below_step (bs4 HB GE326 GE341 GE348 GE356) hb); (try clear hb); (try clear hb2); (try clear hk); (try clear hi)))
         go_meet
         case rel => exact ⟨_, ((t355 != t340)), (by first | rfl | (simp; done) | (simp [*]; done)), H', ⟨by have := HJ11.out; first | omega | exact Nat.le_refl _⟩, rm HO_342000 (fun _ hk => ⟨hk.1, hk.2.1⟩), rm HO_349000 (fun _ hk => ⟨hk.1.1, hk.1.2⟩), rm HO_357000 (fun _ hk => ⟨hk.1, hk.2.1⟩), ⟨bk BK326⟩, ⟨bk BK341⟩, ⟨bk BK348⟩, ⟨bk BK356⟩, ⟨bs4 HB GE326 GE341 GE348 GE356⟩⟩
        ·
         replace c73 := Bool.eq_false_iff.mpr c73
         subst c73
         rw [if_neg (show ¬ (false = true) by decide)] at H
         have H' := Aside0.mk H
         clear H
         have hnb82 := NB356_326.out
         have hnc82 := NB326_356.out
         have hnb83 := NB356_341.out
         have hnc83 := NB341_356.out
         have hnb84 := NB356_348.out
         have hnc84 := NB348_356.out
         obtain ⟨hcz85_0, hcz85_1, hcz85_2, hcz85_3⟩ := cz4 BK356
         obtain ⟨hfz85_0, hfz85_1, hfz85_2, hfz85_3⟩ := fz4 BK356
         have hnb86 := NB341_326.out
         have hnc86 := NB326_341.out
         have hnb87 := NB341_348.out
         have hnc87 := NB348_341.out
         obtain ⟨hcz88_0, hcz88_1, hcz88_2, hcz88_3⟩ := cz4 BK341
         obtain ⟨hfz88_0, hfz88_1, hfz88_2, hfz88_3⟩ := fz4 BK341
         go_wp2_with (first | (go_at_call 21; (with_reducible refine (laws_eqRing.calls kj11 _ _ t349 t352 t353 t354 _ _ t334 t337 t338 t339 false _ ?side1 ?side2 ?side3 ?side4 A72.out).mono ?_); (case side1 => exact rc0 HO_357000); (case side2 => exact (Kd.R_reads' HO_357000.out).2.1); (case side3 => exact rc0 HO_342000); (case side4 => exact (Kd.R_reads' HO_342000.out).2.1); rintro e w89 ⟨rfl, hb⟩; replace HO_342000 := nr HO_342000 hb; replace HO_349000 := nr HO_349000 hb; replace HO_357000 := nr HO_357000 hb; replace HO360 := nr HO360 hb; replace BK326 := nb BK326 hb; replace BK341 := nb BK341 hb; replace BK348 := nb BK348 hb; replace BK356 := nb BK356 hb; replace HB := Aside0.mk (below_step (bs4 HB GE326 GE341 GE348 GE356) hb); (try clear hb); (try clear hb2); (try clear hk); (try clear hi)))
         go_meet
         case rel => exact ⟨_, (true), (by first | rfl | (simp; done) | (simp [*]; done)), H', ⟨by have := HJ11.out; first | omega | exact Nat.le_refl _⟩, rm HO_342000 (fun _ hk => ⟨hk.1, hk.2.1⟩), rm HO_349000 (fun _ hk => ⟨hk.1.1, hk.1.2⟩), rm HO_357000 (fun _ hk => ⟨hk.1, hk.2.1⟩), ⟨bk BK326⟩, ⟨bk BK341⟩, ⟨bk BK348⟩, ⟨bk BK356⟩, ⟨bs4 HB GE326 GE341 GE348 GE356⟩⟩
      case rest =>
       clear HC61
       try clear c1
       try clear c2
       try clear p2
       try clear c3
       try clear c4
       try clear c4b0
       try clear c5
       try clear c6
       try clear c7
       try clear c8
       try clear c9
       try clear c17
       try clear c19
       try clear c21
       try clear c22
       try clear c24
       try clear c28
       try clear c29
       try clear c34
       try clear c35
       try clear c36
       try clear c39
       try clear c40
       try clear c41
       try clear c42
       try clear c44
       try clear c45
       try clear c48
       try clear c49
       try clear c50
       try clear c52
       try clear c53
       try clear c56
       try clear c59
       try clear c66
       try clear c67
       try clear c68
       try clear c71
       try clear c71b0
       try clear c73
       try clear c74
       try clear c75
       try clear c76
       try clear c78
       try clear c79
       try clear c82
       try clear c83
       try clear c84
       try clear c86
       try clear c87
       try clear hcz14_0 hcz14_1 hcz14_2 hcz14_3
       try clear hcz16_0 hcz16_1 hcz16_2 hcz16_3
       try clear hcz23_0 hcz23_1 hcz23_2 hcz23_3
       try clear hcz24_0 hcz24_1 hcz24_2 hcz24_3
       try clear hcz30_0 hcz30_1 hcz30_2 hcz30_3
       try clear hcz37_0 hcz37_1 hcz37_2 hcz37_3
       try clear hcz43_0 hcz43_1 hcz43_2 hcz43_3
       try clear hcz46_0 hcz46_1 hcz46_2 hcz46_3
       try clear hcz51_0 hcz51_1 hcz51_2 hcz51_3
       try clear hcz54_0 hcz54_1 hcz54_2 hcz54_3
       try clear hcz69_0 hcz69_1 hcz69_2 hcz69_3
       try clear hcz6_0 hcz6_1 hcz6_2 hcz6_3
       try clear hcz77_0 hcz77_1 hcz77_2 hcz77_3
       try clear hcz80_0 hcz80_1 hcz80_2 hcz80_3
       try clear hcz85_0 hcz85_1 hcz85_2 hcz85_3
       try clear hcz88_0 hcz88_1 hcz88_2 hcz88_3
       try clear hfz14_0 hfz14_1 hfz14_2 hfz14_3
       try clear hfz16_0 hfz16_1 hfz16_2 hfz16_3
       try clear hfz23_0 hfz23_1 hfz23_2 hfz23_3
       try clear hfz24_0 hfz24_1 hfz24_2 hfz24_3
       try clear hfz30_0 hfz30_1 hfz30_2 hfz30_3
       try clear hfz37_0 hfz37_1 hfz37_2 hfz37_3
       try clear hfz43_0 hfz43_1 hfz43_2 hfz43_3
       try clear hfz46_0 hfz46_1 hfz46_2 hfz46_3
       try clear hfz51_0 hfz51_1 hfz51_2 hfz51_3
       try clear hfz54_0 hfz54_1 hfz54_2 hfz54_3
       try clear hfz69_0 hfz69_1 hfz69_2 hfz69_3
       try clear hfz6_0 hfz6_1 hfz6_2 hfz6_3
       try clear hfz77_0 hfz77_1 hfz77_2 hfz77_3
       try clear hfz80_0 hfz80_1 hfz80_2 hfz80_3
       try clear hfz85_0 hfz85_1 hfz85_2 hfz85_3
       try clear hfz88_0 hfz88_1 hfz88_2 hfz88_3
       try clear p2
       obtain ⟨kq, x65_60, rfl, HA, HJ60, HO_342000, HO_349000, HO_357000, BK326, BK341, BK348, BK356, HB⟩ := hcut
       have hl349000_60 := (Kd.R_reads' HO_349000.out).1
       rw [hl349000_60] at HO_349000
       (try simp only [hl349000_60])
       (try simp only [hl349000_60] at BK326)
       (try simp only [hl349000_60] at BK341)
       (try simp only [hl349000_60] at BK348)
       (try simp only [hl349000_60] at BK356)
       (try simp only [hl349000_60] at HO_342000)
       (try simp only [hl349000_60] at HO_357000)
       cases kq with
       | zero => exact absurd HA.out (by simp [laws_FnExactPushTail.j1])
       | succ kj60 =>
        have H := HA.out
        clear HA
        simp only [laws_FnExactPushTail.j1] at H
        by_cases c90 : x65_60 = true
        ·
         subst c90
         rw [if_pos rfl] at H
         obtain rfl := Option.some.inj H
         go_wp2
         go_ret
         exact ⟨by first | rfl | (simp [errW_none, errW_some] <;> rfl) | (simp [*, errW_none, errW_some] <;> rfl), bs4 HB GE326 GE341 GE348 GE356⟩
        ·
         replace c90 := Bool.eq_false_iff.mpr c90
         subst c90
         rw [if_neg (show ¬ (false = true) by decide)] at H
         replace H := Option.bind_eq_some_iff.mp H
         obtain ⟨⟨t368, t369⟩, A910, H⟩ := H
         replace H : ((laws_heldRing.f kj60 t369 t352 t353 t354 1).bind fun t370 => (if t370 < 0 then (some false) else (if t370 = t368 then ((laws_toRing.f kj60 l0_0 a0_1 a0_2 a0_3).bind fun bt371 => ((impl_PushTail.f kj60 bt371.1 bt371.2.1 bt371.2.2.1 bt371.2.2.2 a1).bind fun bt377 => ((laws_eqRing.f kj60 bt377.1 bt377.2.1 bt377.2.2.1 bt377.2.2.2.1 t334 t337 t338 t339).bind fun t385 => (if t385 = true then (laws_FnExactPushTail.j2 kj60 t368 (bt377.2.2.2.2 != t340) t369 t352 t353 t354) else (laws_FnExactPushTail.j2 kj60 t368 true t369 t352 t353 t354))))) else (some false)))) = some r := H
         have A91 := Aside0.mk A910
         clear A910
         replace H := Option.bind_eq_some_iff.mp H
         obtain ⟨t370, A920, H⟩ := H
         replace H : (if t370 < 0 then (some false) else (if t370 = t368 then ((laws_toRing.f kj60 l0_0 a0_1 a0_2 a0_3).bind fun bt371 => ((impl_PushTail.f kj60 bt371.1 bt371.2.1 bt371.2.2.1 bt371.2.2.2 a1).bind fun bt377 => ((laws_eqRing.f kj60 bt377.1 bt377.2.1 bt377.2.2.1 bt377.2.2.2.1 t334 t337 t338 t339).bind fun t385 => (if t385 = true then (laws_FnExactPushTail.j2 kj60 t368 (bt377.2.2.2.2 != t340) t369 t352 t353 t354) else (laws_FnExactPushTail.j2 kj60 t368 true t369 t352 t353 t354))))) else (some false))) = some r := H
         have A92 := Aside0.mk A920
         clear A920
         by_cases c93 : t370 < 0
         ·
          rw [if_pos c93] at H
          have c93b0 : decide (t370 < 0) = true := decide_eq_true c93
          clear c93
          obtain rfl := Option.some.inj H
          have hnb94 := NB356_326.out
          have hnc94 := NB326_356.out
          have hnb95 := NB356_341.out
          have hnc95 := NB341_356.out
          have hnb96 := NB356_348.out
          have hnc96 := NB348_356.out
          obtain ⟨hcz97_0, hcz97_1, hcz97_2, hcz97_3⟩ := cz4 BK356
          obtain ⟨hfz97_0, hfz97_1, hfz97_2, hfz97_3⟩ := fz4 BK356
          go_wp2_with (first | ((with_reducible refine gate_callee (f := 24) rfl ?_); refine gL (some 68) rfl rfl Tryd.func24 (by kernel_rfl) rfl #[.agg #[.slice Ao33 t349.length co33, .int .i64 t352, .int .i64 t353, .int .i64 t354], .int .i64 1] rfl ?_; (with_reducible refine (laws_markRing.calls kj60 (fun k_ => some k_ = (.slice Ao33 t349.length co33 : Value).ownBlock) (.slice Ao33 t349.length co33) t349 t352 t353 t354 1 t368 t369 w _ ?side1 ?side2 A91.out).mono ?_); (case side1 => repeat (first | (with_reducible first | exact HB.out | apply below_alloc | apply pw_below_drewN | apply below_drew1 | refine below_set ?_ GE326.out | refine below_set ?_ GE341.out | refine below_set ?_ GE348.out | refine below_set ?_ GE356.out) | exact HB.out)); (case side2 => exact Kd.R_tight rfl HO_357000.out); rintro e w98 ⟨rfl, hy0, hb, hkp⟩; refine ⟨_, rfl, ?_⟩; replace HO_342000 := Aside0.mk (Kd.R_mono (ok' := fun k_ => some k_ ≠ (.slice Ao27 t366.length co27 : Value).ownBlock ∧ some k_ ≠ (.slice Ao33 t349.length co33 : Value).ownBlock) (Kd.R_keptB (HO_342000.out) hkp (fun k_ hk_ hs_ => (hk_.2) hs_)) (fun k_ hk_ => ⟨hk_.1.1, hk_.1.2⟩)); replace HO_349000 := Aside0.mk (Kd.R_mono (ok' := fun k_ => some k_ ≠ (.slice Ao21 t334.length co21 : Value).ownBlock ∧ some k_ ≠ (.slice Ao33 t349.length co33 : Value).ownBlock) (Kd.R_keptB (HO_349000.out) hkp (fun k_ hk_ hs_ => (hk_.2) hs_)) (fun k_ hk_ => ⟨hk_.1.1, hk_.1.2⟩)); replace BK326 := Aside0.mk (blk_kept (bk BK326) hkp (fun hs_ => (fun e_ => (Kd.R_ne HO_357000.out BK326.out (by decide)) e_) hs_)); replace BK341 := Aside0.mk (blk_kept (bk BK341) hkp (fun hs_ => (fun e_ => (Kd.R_ne HO_357000.out BK341.out (by decide)) e_) hs_)); replace BK348 := Aside0.mk (blk_kept (bk BK348) hkp (fun hs_ => (fun e_ => (Kd.R_ne HO_357000.out BK348.out (by decide)) e_) hs_)); replace BK356 := Aside0.mk (blk_kept (bk BK356) hkp (fun hs_ => (fun e_ => (Kd.R_ne HO_357000.out BK356.out (by decide)) e_) hs_)); replace HO_357000 := Aside0.mk (Kd.R_reok rfl hy0 (fun k_ e_ => HO_357000.out.1 k_ e_)); replace HB := Aside0.mk (hb); (try clear hb); (try clear hkp); (try clear hy0); obtain ⟨hcz99_0, hcz99_1, hcz99_2, hcz99_3⟩ := cz4 BK356; obtain ⟨hfz99_0, hfz99_1, hfz99_2, hfz99_3⟩ := fz4 BK356) | ((with_reducible refine gate_callee (f := 25) rfl ?_); refine goesL_ (some 71) rfl rfl Tryd.func25 (by kernel_rfl) rfl #[.agg #[.slice Ao33 t369.length co33, .int .i64 t352, .int .i64 t353, .int .i64 t354], .int .i64 1] rfl (by (try simp only [List.map_toArray, List.map_cons, List.map_nil]); first | done | (rw [show t369.length = t349.length from (Kd.R_reads' HO_357000.out).1.symm] <;> rfl) | rfl | (simp only [List.length_drop, List.length_take]; rfl)) ?_; (with_reducible refine (laws_heldRing.calls kj60 _ _ t369 t352 t353 t354 1 t370 _ ?side1 ?side2 A92.out).mono ?_); (case side1 => exact rc0 HO_357000); (case side2 => rw [show t369.length = t349.length from (Kd.R_reads' HO_357000.out).1.symm]; exact (Kd.R_reads' HO_357000.out).2.1); rintro e w100 ⟨rfl, hb⟩; refine ⟨_, rfl, ?_⟩; replace HO_342000 := nr HO_342000 hb; replace HO_349000 := nr HO_349000 hb; replace HO_357000 := nr HO_357000 hb; replace BK326 := nb BK326 hb; replace BK341 := nb BK341 hb; replace BK348 := nb BK348 hb; replace BK356 := nb BK356 hb; replace HB := Aside0.mk (below_step (bs4 HB GE326 GE341 GE348 GE356) hb); (try clear hb); (try clear hb2); (try clear hk); (try clear hi)))
          go_ret
          exact ⟨by first | rfl | (simp [errW_none, errW_some] <;> rfl) | (simp [*, errW_none, errW_some] <;> rfl), bs4 HB GE326 GE341 GE348 GE356⟩
         ·
          rw [if_neg c93] at H
          have c93b0 : decide (t370 < 0) = false := decide_eq_false c93
          clear c93
          by_cases c101 : t370 = t368
          ·
           rw [if_pos c101] at H
           have c101b0 : (t370 == t368) = true := beq_iff_eq.mpr c101
           have c101b1 : (t370 != t368) = false := bne_eq_false_iff_eq.mpr c101
           clear c101
           replace H := Option.bind_eq_some_iff.mp H
           obtain ⟨⟨t371, t374, t375, t376⟩, A1020, H⟩ := H
           replace H : ((impl_PushTail.f kj60 t371 t374 t375 t376 a1).bind fun bt377 => ((laws_eqRing.f kj60 bt377.1 bt377.2.1 bt377.2.2.1 bt377.2.2.2.1 t334 t337 t338 t339).bind fun t385 => (if t385 = true then (laws_FnExactPushTail.j2 kj60 t368 (bt377.2.2.2.2 != t340) t369 t352 t353 t354) else (laws_FnExactPushTail.j2 kj60 t368 true t369 t352 t353 t354)))) = some r := H
           have A102 := Aside0.mk A1020
           clear A1020
           replace H := Option.bind_eq_some_iff.mp H
           obtain ⟨⟨t377, t380, t381, t382, t383⟩, A1030, H⟩ := H
           replace H : ((laws_eqRing.f kj60 t377 t380 t381 t382 t334 t337 t338 t339).bind fun t385 => (if t385 = true then (laws_FnExactPushTail.j2 kj60 t368 (t383 != t340) t369 t352 t353 t354) else (laws_FnExactPushTail.j2 kj60 t368 true t369 t352 t353 t354))) = some r := H
           have A103 := Aside0.mk A1030
           clear A1030
           have HC104 := Aside0.mk H
           clear H
           have hnb105 := NB356_326.out
           have hnc105 := NB326_356.out
           have hnb106 := NB356_341.out
           have hnc106 := NB341_356.out
           have hnb107 := NB356_348.out
           have hnc107 := NB348_356.out
           obtain ⟨hcz108_0, hcz108_1, hcz108_2, hcz108_3⟩ := cz4 BK356
           obtain ⟨hfz108_0, hfz108_1, hfz108_2, hfz108_3⟩ := fz4 BK356
           go_upto_region 25 with (first | ((with_reducible refine gate_callee (f := 24) rfl ?_); refine gL (some 68) rfl rfl Tryd.func24 (by kernel_rfl) rfl #[.agg #[.slice Ao33 t349.length co33, .int .i64 t352, .int .i64 t353, .int .i64 t354], .int .i64 1] rfl ?_; (with_reducible refine (laws_markRing.calls kj60 (fun k_ => some k_ = (.slice Ao33 t349.length co33 : Value).ownBlock) (.slice Ao33 t349.length co33) t349 t352 t353 t354 1 t368 t369 w _ ?side1 ?side2 A91.out).mono ?_); (case side1 => repeat (first | (with_reducible first | exact HB.out | apply below_alloc | apply pw_below_drewN | apply below_drew1 | refine below_set ?_ GE326.out | refine below_set ?_ GE341.out | refine below_set ?_ GE348.out | refine below_set ?_ GE356.out) | exact HB.out)); (case side2 => exact Kd.R_tight rfl HO_357000.out); rintro e w109 ⟨rfl, hy0, hb, hkp⟩; refine ⟨_, rfl, ?_⟩; replace HO_342000 := Aside0.mk (Kd.R_mono (ok' := fun k_ => some k_ ≠ (.slice Ao27 t366.length co27 : Value).ownBlock ∧ some k_ ≠ (.slice Ao33 t349.length co33 : Value).ownBlock) (Kd.R_keptB (HO_342000.out) hkp (fun k_ hk_ hs_ => (hk_.2) hs_)) (fun k_ hk_ => ⟨hk_.1.1, hk_.1.2⟩)); replace HO_349000 := Aside0.mk (Kd.R_mono (ok' := fun k_ => some k_ ≠ (.slice Ao21 t334.length co21 : Value).ownBlock ∧ some k_ ≠ (.slice Ao33 t349.length co33 : Value).ownBlock) (Kd.R_keptB (HO_349000.out) hkp (fun k_ hk_ hs_ => (hk_.2) hs_)) (fun k_ hk_ => ⟨hk_.1.1, hk_.1.2⟩)); replace BK326 := Aside0.mk (blk_kept (bk BK326) hkp (fun hs_ => (fun e_ => (Kd.R_ne HO_357000.out BK326.out (by decide)) e_) hs_)); replace BK341 := Aside0.mk (blk_kept (bk BK341) hkp (fun hs_ => (fun e_ => (Kd.R_ne HO_357000.out BK341.out (by decide)) e_) hs_)); replace BK348 := Aside0.mk (blk_kept (bk BK348) hkp (fun hs_ => (fun e_ => (Kd.R_ne HO_357000.out BK348.out (by decide)) e_) hs_)); replace BK356 := Aside0.mk (blk_kept (bk BK356) hkp (fun hs_ => (fun e_ => (Kd.R_ne HO_357000.out BK356.out (by decide)) e_) hs_)); replace HO_357000 := Aside0.mk (Kd.R_reok rfl hy0 (fun k_ e_ => HO_357000.out.1 k_ e_)); replace HB := Aside0.mk (hb); (try clear hb); (try clear hkp); (try clear hy0); obtain ⟨hcz110_0, hcz110_1, hcz110_2, hcz110_3⟩ := cz4 BK356; obtain ⟨hfz110_0, hfz110_1, hfz110_2, hfz110_3⟩ := fz4 BK356) | ((with_reducible refine gate_callee (f := 25) rfl ?_); refine goesL_ (some 71) rfl rfl Tryd.func25 (by kernel_rfl) rfl #[.agg #[.slice Ao33 t369.length co33, .int .i64 t352, .int .i64 t353, .int .i64 t354], .int .i64 1] rfl (by (try simp only [List.map_toArray, List.map_cons, List.map_nil]); first | done | (rw [show t369.length = t349.length from (Kd.R_reads' HO_357000.out).1.symm] <;> rfl) | rfl | (simp only [List.length_drop, List.length_take]; rfl)) ?_; (with_reducible refine (laws_heldRing.calls kj60 _ _ t369 t352 t353 t354 1 t370 _ ?side1 ?side2 A92.out).mono ?_); (case side1 => exact rc0 HO_357000); (case side2 => rw [show t369.length = t349.length from (Kd.R_reads' HO_357000.out).1.symm]; exact (Kd.R_reads' HO_357000.out).2.1); rintro e w111 ⟨rfl, hb⟩; refine ⟨_, rfl, ?_⟩; replace HO_342000 := nr HO_342000 hb; replace HO_349000 := nr HO_349000 hb; replace HO_357000 := nr HO_357000 hb; replace BK326 := nb BK326 hb; replace BK341 := nb BK341 hb; replace BK348 := nb BK348 hb; replace BK356 := nb BK356 hb; replace HB := Aside0.mk (below_step (bs4 HB GE326 GE341 GE348 GE356) hb); (try clear hb); (try clear hb2); (try clear hk); (try clear hi); have hnb112 := NB326_341.out; have hnc112 := NB341_326.out; have hnb113 := NB326_348.out; have hnc113 := NB348_326.out; obtain ⟨hcz114_0, hcz114_1, hcz114_2, hcz114_3⟩ := cz4 BK326; obtain ⟨hfz114_0, hfz114_1, hfz114_2, hfz114_3⟩ := fz4 BK326) | ((with_reducible refine gate_callee (f := 19) rfl ?_); refine gL (some 79) rfl rfl Tryd.func19 (by kernel_rfl) rfl #[.agg #[.slice A0_0 l0_0.length c0_0, .int .i64 a0_1, .int .i64 a0_2, .int .i64 a0_3]] rfl ?_; (with_reducible refine (laws_toRing.calls kj60 _ _ l0_0 a0_1 a0_2 a0_3 t371 t374 t375 t376 _ ?side1 ?side2 A102.out).mono ?_); (case side1 => exact cb HR0_0 HB); (case side2 => exact HC0_0.out); rintro e w115 ⟨v372, rfl, ho0, hb⟩; refine ⟨_, rfl, ?_⟩; have HO373 := Aside0.mk (Kd.R_lower (Kd.R_new' (Kd.R_new' (Kd.R_new' ho0 (Kd.R_lt (rr HO_342000.out))) (Kd.R_lt (rr HO_349000.out))) (Kd.R_lt (rr HO_357000.out))) (below_size (bs4 HB GE326 GE341 GE348 GE356))); replace HO_342000 := Aside0.mk (Kd.R_elder' (rr HO_342000.out) (Kd.R_base ho0) hb); replace HO_349000 := Aside0.mk (Kd.R_elder' (rr HO_349000.out) (Kd.R_base ho0) hb); replace HO_357000 := Aside0.mk (Kd.R_elder' (rr HO_357000.out) (Kd.R_base ho0) hb); replace BK326 := nb BK326 hb; replace BK341 := nb BK341 hb; replace BK348 := nb BK348 hb; replace BK356 := nb BK356 hb; replace HB := Aside0.mk (below_step (bs4 HB GE326 GE341 GE348 GE356) hb); (try clear hb); (try clear hb2); (try clear hk); (try clear hi); (try clear ho0); obtain ⟨Ao116, co116, eo116⟩ := Kd.R_slice HO373.out; subst eo116) | ((with_reducible refine gate_callee (f := 39) rfl ?_); refine gL (some 81) rfl rfl Tryd.func39 (by kernel_rfl) rfl #[.agg #[.slice Ao116 t371.length co116, .int .i64 t374, .int .i64 t375, .int .i64 t376], .int .i64 a1] rfl ?_; (with_reducible refine (impl_PushTail.calls kj60 _ _ t371 t374 t375 t376 a1 t377 t380 t381 t382 t383 _ ?sideT ?side1 ?side2 A103.out).mono ?_); (case sideT => refine ⟨Ito.tabB hTab_.out ?_⟩; first | exact bs HB | exact st_below | (repeat (first | (with_reducible first | exact HB.out | apply below_alloc | apply pw_below_drewN | apply below_drew1 | refine below_set ?_ (Aside0.out (by assumption))) | exact HB.out))); (case side1 => exact rc0 HO373); (case side2 => exact (Kd.R_reads' HO373.out).2.1); rintro e w117 ⟨v378, rfl, ho0, hb⟩; refine ⟨_, rfl, ?_⟩; have HO379 := Aside0.mk (Kd.R_lower (Kd.R_new' (Kd.R_new' (Kd.R_new' (Kd.R_new' ho0 (Kd.R_lt (rr HO_342000.out))) (Kd.R_lt (rr HO_349000.out))) (Kd.R_lt (rr HO_357000.out))) (Kd.R_lt (rr HO373.out))) (below_size (bs4 HB GE326 GE341 GE348 GE356))); replace HO_342000 := Aside0.mk (Kd.R_elder' (rr HO_342000.out) (Kd.R_base ho0) hb); replace HO_349000 := Aside0.mk (Kd.R_elder' (rr HO_349000.out) (Kd.R_base ho0) hb); replace HO_357000 := Aside0.mk (Kd.R_elder' (rr HO_357000.out) (Kd.R_base ho0) hb); replace HO373 := Aside0.mk (Kd.R_elder' (rr HO373.out) (Kd.R_base ho0) hb); replace BK326 := nb BK326 hb; replace BK341 := nb BK341 hb; replace BK348 := nb BK348 hb; replace BK356 := nb BK356 hb; replace HB := Aside0.mk (below_step (bs4 HB GE326 GE341 GE348 GE356) hb); (try clear hb); (try clear hb2); (try clear hk); (try clear hi); (try clear ho0)) | ((with_reducible refine gate_dst (N := 14) rfl ?_); refine box_event ?hg (N := 14) ?hd (cs := #[.slice none 0 0, .int .i64 0, .int .i64 0, .int .i64 0]) (t := 36) ?hr ?_; (case hd => rfl); (case hg => rfl); (case hr => first | (go_simp; done) | (go_simp; rfl)); intro gb384 hg w118 hbox hb; replace HO_342000 := nr HO_342000 hb; replace HO_349000 := nr HO_349000 hb; replace HO_357000 := nr HO_357000 hb; replace HO373 := nr HO373 hb; replace HO379 := nr HO379 hb; have BK384 := Aside0.mk (hbox); have GW384 := Aside0.mk ((by rw [hg]; exact (below_size (bs4 HB GE326 GE341 GE348 GE356)) : w.heap.size ≤ gb384)); have GE384 := Aside0.mk ((by rw [hg]; exact (below_size (bs4 HB GE326 GE341 GE348 GE356)) : w.heap.size ≤ gb384)); replace HB := Aside0.mk (below_step (bs4 HB GE326 GE341 GE348 GE356) hb); have NB326_384 := Aside0.mk ((bn BK326 hg : gb326 ≠ gb384)); have NB384_326 := Aside0.mk ((bm BK326 hg : gb384 ≠ gb326)); replace BK326 := nb BK326 hb; have NB341_384 := Aside0.mk ((bn BK341 hg : gb341 ≠ gb384)); have NB384_341 := Aside0.mk ((bm BK341 hg : gb384 ≠ gb341)); replace BK341 := nb BK341 hb; have NB348_384 := Aside0.mk ((bn BK348 hg : gb348 ≠ gb384)); have NB384_348 := Aside0.mk ((bm BK348 hg : gb384 ≠ gb348)); replace BK348 := nb BK348 hb; have NB356_384 := Aside0.mk ((bn BK356 hg : gb356 ≠ gb384)); have NB384_356 := Aside0.mk ((bm BK356 hg : gb384 ≠ gb356)); replace BK356 := nb BK356 hb; clear hb hbox hg; obtain ⟨Ao119, co119, eo119⟩ := Kd.R_slice HO379.out; subst eo119; have hnb120 := NB384_326.out; have hnc120 := NB326_384.out; have hnb121 := NB384_341.out; have hnc121 := NB341_384.out; have hnb122 := NB384_348.out; have hnc122 := NB348_384.out; have hnb123 := NB384_356.out; have hnc123 := NB356_384.out; obtain ⟨hcz124_0, hcz124_1, hcz124_2, hcz124_3⟩ := cz4 BK384; obtain ⟨hfz124_0, hfz124_1, hfz124_2, hfz124_3⟩ := fz4 BK384))
           (try simp only [Act.put, List.setIfInBounds_toArray, List.set_cons_zero, List.set_cons_succ])
           go_cut [92] (fun v92 wc => ∃ (kq : Nat) (x92_103 : Bool), v92 = .bool x92_103 ∧ Aside0 (laws_FnExactPushTail.j2 kq t368 x92_103 t369 t352 t353 t354 = some r) ∧ Aside0 (kq ≤ kj60) ∧ Aside0 (Kd.R k26 26 wc w.heap.size (fun k_ => some k_ ≠ ((.slice Ao27 t366.length co27) : Value).ownBlock ∧ some k_ ≠ ((.slice Ao33 t349.length co33) : Value).ownBlock ∧ some k_ ≠ ((.slice Ao119 t377.length co119) : Value).ownBlock) (.slice Ao21 t334.length co21) t334) ∧ Aside0 (Kd.R k26 26 wc w.heap.size (fun k_ => some k_ ≠ ((.slice Ao21 t334.length co21) : Value).ownBlock ∧ some k_ ≠ ((.slice Ao33 t349.length co33) : Value).ownBlock ∧ some k_ ≠ ((.slice Ao119 t377.length co119) : Value).ownBlock) (.slice Ao27 t366.length co27) t366) ∧ Aside0 (Kd.R k26 26 wc w.heap.size (fun k_ => some k_ ≠ ((.slice Ao21 t334.length co21) : Value).ownBlock ∧ some k_ ≠ ((.slice Ao27 t366.length co27) : Value).ownBlock ∧ some k_ ≠ ((.slice Ao119 t377.length co119) : Value).ownBlock) (.slice Ao33 t349.length co33) t369) ∧ Aside0 (Kd.R k26 26 wc w.heap.size (fun k_ => some k_ ≠ ((.slice Ao21 t334.length co21) : Value).ownBlock ∧ some k_ ≠ ((.slice Ao27 t366.length co27) : Value).ownBlock ∧ some k_ ≠ ((.slice Ao33 t349.length co33) : Value).ownBlock) (.slice Ao119 t377.length co119) t377) ∧ Aside0 (wc.heap[gb326]? = some (.cells #[(.slice A0_0 l0_0.length c0_0), .int .i64 a0_1, .int .i64 a0_2, .int .i64 a0_3] 31 (0, 0))) ∧ Aside0 (wc.heap[gb341]? = some (.cells #[(.slice Ao21 t334.length co21), .int .i64 t337, .int .i64 t338, .int .i64 t339] 36 (0, 0))) ∧ Aside0 (wc.heap[gb348]? = some (.cells #[(.slice Ao27 t366.length co27), .int .i64 t345, .int .i64 t346, .int .i64 t347] 36 (0, 0))) ∧ Aside0 (wc.heap[gb356]? = some (.cells #[(.slice Ao33 t349.length co33), .int .i64 t352, .int .i64 t353, .int .i64 t354] 36 (0, 0))) ∧ Aside0 (wc.heap[gb384]? = some (.cells #[(.slice Ao119 t377.length co119), .int .i64 t380, .int .i64 t381, .int .i64 t382] 36 (0, 0))) ∧ Aside0 (Below w.heap.size w wc))
           case first =>
            have H := HC104.out
            clear HC104
            replace H := Option.bind_eq_some_iff.mp H
            obtain ⟨t385, A1250, H⟩ := H
            replace H : (if t385 = true then (laws_FnExactPushTail.j2 kj60 t368 (t383 != t340) t369 t352 t353 t354) else (laws_FnExactPushTail.j2 kj60 t368 true t369 t352 t353 t354)) = some r := H
            have A125 := Aside0.mk A1250
            clear A1250
            by_cases c126 : t385 = true
            ·
             subst c126
             rw [if_pos rfl] at H
             have H' := Aside0.mk H
             clear H
             have hnb127 := NB384_326.out
             have hnc127 := NB326_384.out
             have hnb128 := NB384_341.out
             have hnc128 := NB341_384.out
             have hnb129 := NB384_348.out
             have hnc129 := NB348_384.out
             have hnb130 := NB384_356.out
             have hnc130 := NB356_384.out
             obtain ⟨hcz131_0, hcz131_1, hcz131_2, hcz131_3⟩ := cz4 BK384
             obtain ⟨hfz131_0, hfz131_1, hfz131_2, hfz131_3⟩ := fz4 BK384
             have hnb132 := NB341_326.out
             have hnc132 := NB326_341.out
             have hnb133 := NB341_348.out
             have hnc133 := NB348_341.out
             have hnb134 := NB341_356.out
             have hnc134 := NB356_341.out
             obtain ⟨hcz135_0, hcz135_1, hcz135_2, hcz135_3⟩ := cz4 BK341
             obtain ⟨hfz135_0, hfz135_1, hfz135_2, hfz135_3⟩ := fz4 BK341
             go_wp2_with (first | ((with_reducible refine gate_callee (f := 21) rfl ?_); refine gL (some 86) rfl rfl Tryd.func21 (by kernel_rfl) rfl #[.agg #[.slice Ao119 t377.length co119, .int .i64 t380, .int .i64 t381, .int .i64 t382], .agg #[.slice Ao21 t334.length co21, .int .i64 t337, .int .i64 t338, .int .i64 t339]] rfl ?_; (with_reducible refine (laws_eqRing.calls kj60 _ _ t377 t380 t381 t382 _ _ t334 t337 t338 t339 true _ ?side1 ?side2 ?side3 ?side4 A125.out).mono ?_); (case side1 => exact rc HO379 BK384); (case side2 => exact (Kd.R_reads' HO379.out).2.1); (case side3 => exact rc HO_342000 BK384); (case side4 => exact (Kd.R_reads' HO_342000.out).2.1); rintro e w136 ⟨rfl, hb⟩; refine ⟨_, rfl, ?_⟩; replace HO_342000 := nf HO_342000 BK384 hb; replace HO_349000 := nf HO_349000 BK384 hb; replace HO_357000 := nf HO_357000 BK384 hb; replace HO373 := nf HO373 BK384 hb; replace HO379 := nf HO379 BK384 hb; replace BK326 := Aside0.mk (blk_below (bf BK326 NB326_384) hb); replace BK341 := Aside0.mk (blk_below (bf BK341 NB341_384) hb); replace BK348 := Aside0.mk (blk_below (bf BK348 NB348_384) hb); replace BK356 := Aside0.mk (blk_below (bf BK356 NB356_384) hb); replace BK384 := Aside0.mk (blk_below (g := gb384) (o := .cells #[.slice Ao119 t377.length co119, .int .i64 t380, .int .i64 t381, .int .i64 t382] 36 (0, 0)) (by (with_reducible repeat (first | refine blk_drewN ?_ _ | refine blk_drew ?_ | refine blk_alloc ?_ _)); refine blk_put (cs := #[.slice Ao119 t377.length co119, .int .i64 t380, .int .i64 t381, .int .i64 0]) ?_ 3 _ rfl; (with_reducible repeat (first | refine blk_drewN ?_ _ | refine blk_drew ?_ | refine blk_alloc ?_ _)); refine blk_put (cs := #[.slice Ao119 t377.length co119, .int .i64 t380, .int .i64 0, .int .i64 0]) ?_ 2 _ rfl; (with_reducible repeat (first | refine blk_drewN ?_ _ | refine blk_drew ?_ | refine blk_alloc ?_ _)); refine blk_put (cs := #[.slice Ao119 t377.length co119, .int .i64 0, .int .i64 0, .int .i64 0]) ?_ 1 _ rfl; (with_reducible repeat (first | refine blk_drewN ?_ _ | refine blk_drew ?_ | refine blk_alloc ?_ _)); refine blk_put (cs := #[.slice none 0 0, .int .i64 0, .int .i64 0, .int .i64 0]) ?_ 0 _ rfl; (with_reducible repeat (first | refine blk_drewN ?_ _ | refine blk_drew ?_ | refine blk_alloc ?_ _)); exact BK384.out) hb); replace HB := Aside0.mk (below_step (bs5 HB GE326 GE341 GE348 GE356 GE384) hb); (try clear hb); (try clear hb2); (try clear hk); (try clear hi)))
             go_meet
             case rel => exact ⟨_, ((t383 != t340)), (by first | rfl | (simp; done) | (simp [*]; done)), H', ⟨by have := HJ11.out; have := HJ60.out; first | omega | exact Nat.le_refl _⟩, ⟨by (try simp only [hl349000_60]); (with_reducible repeat (first | apply Kd.R_alloc | apply Kd.R_drewN | apply Kd.R_drew)); exact Kd.R_mono HO_342000.out (fun _ hk => ⟨hk.1.1.1, ⟨hk.1.1.2, hk.2⟩⟩)⟩, ⟨by (try simp only [hl349000_60]); (with_reducible repeat (first | apply Kd.R_alloc | apply Kd.R_drewN | apply Kd.R_drew)); exact Kd.R_mono HO_349000.out (fun _ hk => ⟨hk.1.1.1, ⟨hk.1.1.2, hk.2⟩⟩)⟩, ⟨by (try simp only [hl349000_60]); (with_reducible repeat (first | apply Kd.R_alloc | apply Kd.R_drewN | apply Kd.R_drew)); exact Kd.R_mono HO_357000.out (fun _ hk => ⟨hk.1.1.1, ⟨hk.1.1.2, hk.2⟩⟩)⟩, ⟨by (try simp only [hl349000_60]); (with_reducible repeat (first | apply Kd.R_alloc | apply Kd.R_drewN | apply Kd.R_drew)); exact Kd.R_mono HO379.out (fun _ hk => ⟨hk.1.1.1.2, ⟨hk.1.1.2, hk.1.2⟩⟩)⟩, ⟨by (try simp only [hl349000_60]); (with_reducible repeat (first | refine blk_drewN ?_ _ | refine blk_drew ?_ | refine blk_alloc ?_ _)); exact BK326.out⟩, ⟨by (try simp only [hl349000_60]); (with_reducible repeat (first | refine blk_drewN ?_ _ | refine blk_drew ?_ | refine blk_alloc ?_ _)); exact BK341.out⟩, ⟨by (try simp only [hl349000_60]); (with_reducible repeat (first | refine blk_drewN ?_ _ | refine blk_drew ?_ | refine blk_alloc ?_ _)); exact BK348.out⟩, ⟨by (try simp only [hl349000_60]); (with_reducible repeat (first | refine blk_drewN ?_ _ | refine blk_drew ?_ | refine blk_alloc ?_ _)); exact BK356.out⟩, ⟨by (try simp only [hl349000_60]); (with_reducible repeat (first | refine blk_drewN ?_ _ | refine blk_drew ?_ | refine blk_alloc ?_ _)); exact BK384.out⟩, ⟨bs5 HB GE326 GE341 GE348 GE356 GE384⟩⟩
            ·
             replace c126 := Bool.eq_false_iff.mpr c126
             subst c126
             rw [if_neg (show ¬ (false = true) by decide)] at H
             have H' := Aside0.mk H
             clear H
             have hnb137 := NB384_326.out
             have hnc137 := NB326_384.out
             have hnb138 := NB384_341.out
             have hnc138 := NB341_384.out
             have hnb139 := NB384_348.out
             have hnc139 := NB348_384.out
             have hnb140 := NB384_356.out
             have hnc140 := NB356_384.out
             obtain ⟨hcz141_0, hcz141_1, hcz141_2, hcz141_3⟩ := cz4 BK384
             obtain ⟨hfz141_0, hfz141_1, hfz141_2, hfz141_3⟩ := fz4 BK384
             have hnb142 := NB341_326.out
             have hnc142 := NB326_341.out
             have hnb143 := NB341_348.out
             have hnc143 := NB348_341.out
             have hnb144 := NB341_356.out
             have hnc144 := NB356_341.out
             obtain ⟨hcz145_0, hcz145_1, hcz145_2, hcz145_3⟩ := cz4 BK341
             obtain ⟨hfz145_0, hfz145_1, hfz145_2, hfz145_3⟩ := fz4 BK341
             go_wp2_with (first | ((with_reducible refine gate_callee (f := 21) rfl ?_); refine gL (some 86) rfl rfl Tryd.func21 (by kernel_rfl) rfl #[.agg #[.slice Ao119 t377.length co119, .int .i64 t380, .int .i64 t381, .int .i64 t382], .agg #[.slice Ao21 t334.length co21, .int .i64 t337, .int .i64 t338, .int .i64 t339]] rfl ?_; (with_reducible refine (laws_eqRing.calls kj60 _ _ t377 t380 t381 t382 _ _ t334 t337 t338 t339 false _ ?side1 ?side2 ?side3 ?side4 A125.out).mono ?_); (case side1 => exact rc HO379 BK384); (case side2 => exact (Kd.R_reads' HO379.out).2.1); (case side3 => exact rc HO_342000 BK384); (case side4 => exact (Kd.R_reads' HO_342000.out).2.1); rintro e w146 ⟨rfl, hb⟩; refine ⟨_, rfl, ?_⟩; replace HO_342000 := nf HO_342000 BK384 hb; replace HO_349000 := nf HO_349000 BK384 hb; replace HO_357000 := nf HO_357000 BK384 hb; replace HO373 := nf HO373 BK384 hb; replace HO379 := nf HO379 BK384 hb; replace BK326 := Aside0.mk (blk_below (bf BK326 NB326_384) hb); replace BK341 := Aside0.mk (blk_below (bf BK341 NB341_384) hb); replace BK348 := Aside0.mk (blk_below (bf BK348 NB348_384) hb); replace BK356 := Aside0.mk (blk_below (bf BK356 NB356_384) hb); replace BK384 := Aside0.mk (blk_below (g := gb384) (o := .cells #[.slice Ao119 t377.length co119, .int .i64 t380, .int .i64 t381, .int .i64 t382] 36 (0, 0)) (by (with_reducible repeat (first | refine blk_drewN ?_ _ | refine blk_drew ?_ | refine blk_alloc ?_ _)); refine blk_put (cs := #[.slice Ao119 t377.length co119, .int .i64 t380, .int .i64 t381, .int .i64 0]) ?_ 3 _ rfl; (with_reducible repeat (first | refine blk_drewN ?_ _ | refine blk_drew ?_ | refine blk_alloc ?_ _)); refine blk_put (cs := #[.slice Ao119 t377.length co119, .int .i64 t380, .int .i64 0, .int .i64 0]) ?_ 2 _ rfl; (with_reducible repeat (first | refine blk_drewN ?_ _ | refine blk_drew ?_ | refine blk_alloc ?_ _)); refine blk_put (cs := #[.slice Ao119 t377.length co119, .int .i64 0, .int .i64 0, .int .i64 0]) ?_ 1 _ rfl; (with_reducible repeat (first | refine blk_drewN ?_ _ | refine blk_drew ?_ | refine blk_alloc ?_ _)); refine blk_put (cs := #[.slice none 0 0, .int .i64 0, .int .i64 0, .int .i64 0]) ?_ 0 _ rfl; (with_reducible repeat (first | refine blk_drewN ?_ _ | refine blk_drew ?_ | refine blk_alloc ?_ _)); exact BK384.out) hb); replace HB := Aside0.mk (below_step (bs5 HB GE326 GE341 GE348 GE356 GE384) hb); (try clear hb); (try clear hb2); (try clear hk); (try clear hi)))
             go_meet
             case rel => exact ⟨_, (true), (by first | rfl | (simp; done) | (simp [*]; done)), H', ⟨by have := HJ11.out; have := HJ60.out; first | omega | exact Nat.le_refl _⟩, ⟨by (try simp only [hl349000_60]); (with_reducible repeat (first | apply Kd.R_alloc | apply Kd.R_drewN | apply Kd.R_drew)); exact Kd.R_mono HO_342000.out (fun _ hk => ⟨hk.1.1.1, ⟨hk.1.1.2, hk.2⟩⟩)⟩, ⟨by (try simp only [hl349000_60]); (with_reducible repeat (first | apply Kd.R_alloc | apply Kd.R_drewN | apply Kd.R_drew)); exact Kd.R_mono HO_349000.out (fun _ hk => ⟨hk.1.1.1, ⟨hk.1.1.2, hk.2⟩⟩)⟩, ⟨by (try simp only [hl349000_60]); (with_reducible repeat (first | apply Kd.R_alloc | apply Kd.R_drewN | apply Kd.R_drew)); exact Kd.R_mono HO_357000.out (fun _ hk => ⟨hk.1.1.1, ⟨hk.1.1.2, hk.2⟩⟩)⟩, ⟨by (try simp only [hl349000_60]); (with_reducible repeat (first | apply Kd.R_alloc | apply Kd.R_drewN | apply Kd.R_drew)); exact Kd.R_mono HO379.out (fun _ hk => ⟨hk.1.1.1.2, ⟨hk.1.1.2, hk.1.2⟩⟩)⟩, ⟨by (try simp only [hl349000_60]); (with_reducible repeat (first | refine blk_drewN ?_ _ | refine blk_drew ?_ | refine blk_alloc ?_ _)); exact BK326.out⟩, ⟨by (try simp only [hl349000_60]); (with_reducible repeat (first | refine blk_drewN ?_ _ | refine blk_drew ?_ | refine blk_alloc ?_ _)); exact BK341.out⟩, ⟨by (try simp only [hl349000_60]); (with_reducible repeat (first | refine blk_drewN ?_ _ | refine blk_drew ?_ | refine blk_alloc ?_ _)); exact BK348.out⟩, ⟨by (try simp only [hl349000_60]); (with_reducible repeat (first | refine blk_drewN ?_ _ | refine blk_drew ?_ | refine blk_alloc ?_ _)); exact BK356.out⟩, ⟨by (try simp only [hl349000_60]); (with_reducible repeat (first | refine blk_drewN ?_ _ | refine blk_drew ?_ | refine blk_alloc ?_ _)); exact BK384.out⟩, ⟨bs5 HB GE326 GE341 GE348 GE356 GE384⟩⟩
           case rest =>
            clear HC104
            try clear c1
            try clear c2
            try clear p2
            try clear c3
            try clear c4
            try clear c4b0
            try clear c5
            try clear c6
            try clear c7
            try clear c8
            try clear c9
            try clear c10
            try clear c11
            try clear c12
            try clear c13
            try clear c14
            try clear c17
            try clear c19
            try clear c21
            try clear c22
            try clear c24
            try clear c25
            try clear c28
            try clear c29
            try clear c34
            try clear c35
            try clear c36
            try clear c39
            try clear c40
            try clear c41
            try clear c42
            try clear c44
            try clear c45
            try clear c48
            try clear c49
            try clear c50
            try clear c52
            try clear c53
            try clear c56
            try clear c59
            try clear c66
            try clear c67
            try clear c68
            try clear c71
            try clear c71b0
            try clear c73
            try clear c74
            try clear c75
            try clear c76
            try clear c78
            try clear c79
            try clear c82
            try clear c83
            try clear c84
            try clear c86
            try clear c87
            try clear c90
            try clear c93
            try clear c93b0
            try clear c94
            try clear c95
            try clear c96
            try clear c101
            try clear c101b0
            try clear c101b1
            try clear c105
            try clear c106
            try clear c107
            try clear c112
            try clear c113
            try clear c120
            try clear c121
            try clear c122
            try clear c123
            try clear c126
            try clear c127
            try clear c128
            try clear c129
            try clear c130
            try clear c132
            try clear c133
            try clear c134
            try clear c137
            try clear c138
            try clear c139
            try clear c140
            try clear c142
            try clear c143
            try clear c144
            try clear hcz108_0 hcz108_1 hcz108_2 hcz108_3
            try clear hcz110_0 hcz110_1 hcz110_2 hcz110_3
            try clear hcz114_0 hcz114_1 hcz114_2 hcz114_3
            try clear hcz124_0 hcz124_1 hcz124_2 hcz124_3
            try clear hcz131_0 hcz131_1 hcz131_2 hcz131_3
            try clear hcz135_0 hcz135_1 hcz135_2 hcz135_3
            try clear hcz141_0 hcz141_1 hcz141_2 hcz141_3
            try clear hcz145_0 hcz145_1 hcz145_2 hcz145_3
            try clear hcz14_0 hcz14_1 hcz14_2 hcz14_3
            try clear hcz16_0 hcz16_1 hcz16_2 hcz16_3
            try clear hcz23_0 hcz23_1 hcz23_2 hcz23_3
            try clear hcz24_0 hcz24_1 hcz24_2 hcz24_3
            try clear hcz30_0 hcz30_1 hcz30_2 hcz30_3
            try clear hcz37_0 hcz37_1 hcz37_2 hcz37_3
            try clear hcz43_0 hcz43_1 hcz43_2 hcz43_3
            try clear hcz46_0 hcz46_1 hcz46_2 hcz46_3
            try clear hcz51_0 hcz51_1 hcz51_2 hcz51_3
            try clear hcz54_0 hcz54_1 hcz54_2 hcz54_3
            try clear hcz69_0 hcz69_1 hcz69_2 hcz69_3
            try clear hcz6_0 hcz6_1 hcz6_2 hcz6_3
            try clear hcz77_0 hcz77_1 hcz77_2 hcz77_3
            try clear hcz80_0 hcz80_1 hcz80_2 hcz80_3
            try clear hcz85_0 hcz85_1 hcz85_2 hcz85_3
            try clear hcz88_0 hcz88_1 hcz88_2 hcz88_3
            try clear hcz97_0 hcz97_1 hcz97_2 hcz97_3
            try clear hcz99_0 hcz99_1 hcz99_2 hcz99_3
            try clear hfz108_0 hfz108_1 hfz108_2 hfz108_3
            try clear hfz110_0 hfz110_1 hfz110_2 hfz110_3
            try clear hfz114_0 hfz114_1 hfz114_2 hfz114_3
            try clear hfz124_0 hfz124_1 hfz124_2 hfz124_3
            try clear hfz131_0 hfz131_1 hfz131_2 hfz131_3
            try clear hfz135_0 hfz135_1 hfz135_2 hfz135_3
            try clear hfz141_0 hfz141_1 hfz141_2 hfz141_3
            try clear hfz145_0 hfz145_1 hfz145_2 hfz145_3
            try clear hfz14_0 hfz14_1 hfz14_2 hfz14_3
            try clear hfz16_0 hfz16_1 hfz16_2 hfz16_3
            try clear hfz23_0 hfz23_1 hfz23_2 hfz23_3
            try clear hfz24_0 hfz24_1 hfz24_2 hfz24_3
            try clear hfz30_0 hfz30_1 hfz30_2 hfz30_3
            try clear hfz37_0 hfz37_1 hfz37_2 hfz37_3
            try clear hfz43_0 hfz43_1 hfz43_2 hfz43_3
            try clear hfz46_0 hfz46_1 hfz46_2 hfz46_3
            try clear hfz51_0 hfz51_1 hfz51_2 hfz51_3
            try clear hfz54_0 hfz54_1 hfz54_2 hfz54_3
            try clear hfz69_0 hfz69_1 hfz69_2 hfz69_3
            try clear hfz6_0 hfz6_1 hfz6_2 hfz6_3
            try clear hfz77_0 hfz77_1 hfz77_2 hfz77_3
            try clear hfz80_0 hfz80_1 hfz80_2 hfz80_3
            try clear hfz85_0 hfz85_1 hfz85_2 hfz85_3
            try clear hfz88_0 hfz88_1 hfz88_2 hfz88_3
            try clear hfz97_0 hfz97_1 hfz97_2 hfz97_3
            try clear hfz99_0 hfz99_1 hfz99_2 hfz99_3
            try clear p2
            obtain ⟨kq, x92_103, rfl, HA, HJ103, HO_342000, HO_349000, HO_357000, HO_385000, BK326, BK341, BK348, BK356, BK384, HB⟩ := hcut
            have hl357000_103 := (Kd.R_reads' HO_357000.out).1
            rw [hl357000_103] at HO_357000
            (try simp only [hl357000_103])
            (try simp only [hl357000_103] at BK326)
            (try simp only [hl357000_103] at BK341)
            (try simp only [hl357000_103] at BK348)
            (try simp only [hl357000_103] at BK356)
            (try simp only [hl357000_103] at BK384)
            (try simp only [hl357000_103] at HO_342000)
            (try simp only [hl357000_103] at HO_349000)
            (try simp only [hl357000_103] at HO_385000)
            cases kq with
            | zero => exact absurd HA.out (by simp [laws_FnExactPushTail.j2])
            | succ kj103 =>
             have H := HA.out
             clear HA
             simp only [laws_FnExactPushTail.j2] at H
             by_cases c147 : x92_103 = true
             ·
              subst c147
              rw [if_pos rfl] at H
              obtain rfl := Option.some.inj H
              go_wp2
              go_ret
              exact ⟨by first | rfl | (simp [errW_none, errW_some] <;> rfl) | (simp [*, errW_none, errW_some] <;> rfl), bs5 HB GE326 GE341 GE348 GE356 GE384⟩
             ·
              replace c147 := Bool.eq_false_iff.mpr c147
              subst c147
              rw [if_neg (show ¬ (false = true) by decide)] at H
              replace H := Option.bind_eq_some_iff.mp H
              obtain ⟨t386, A1480, H⟩ := H
              replace H : (if t386 < 0 then (some false) else (if t386 = t368 then (some true) else (some false))) = some r := H
              have A148 := Aside0.mk A1480
              clear A1480
              by_cases c149 : t386 < 0
              ·
               rw [if_pos c149] at H
               have c149b0 : decide (t386 < 0) = true := decide_eq_true c149
               clear c149
               obtain rfl := Option.some.inj H
               have hnb150 := NB356_326.out
               have hnc150 := NB326_356.out
               have hnb151 := NB356_341.out
               have hnc151 := NB341_356.out
               have hnb152 := NB356_348.out
               have hnc152 := NB348_356.out
               have hnb153 := NB356_384.out
               have hnc153 := NB384_356.out
               obtain ⟨hcz154_0, hcz154_1, hcz154_2, hcz154_3⟩ := cz4 BK356
               obtain ⟨hfz154_0, hfz154_1, hfz154_2, hfz154_3⟩ := fz4 BK356
               go_wp2_with (first | ((with_reducible refine gate_callee (f := 25) rfl ?_); refine gL (some 95) rfl rfl Tryd.func25 (by kernel_rfl) rfl #[.agg #[.slice Ao33 t369.length co33, .int .i64 t352, .int .i64 t353, .int .i64 t354], .int .i64 1] rfl ?_; (with_reducible refine (laws_heldRing.calls kj103 _ _ t369 t352 t353 t354 1 t386 _ ?side1 ?side2 A148.out).mono ?_); (case side1 => exact rc0 HO_357000); (case side2 => exact (Kd.R_reads' HO_357000.out).2.1); rintro e w155 ⟨rfl, hb⟩; refine ⟨_, rfl, ?_⟩; replace HO_342000 := nr HO_342000 hb; replace HO_349000 := nr HO_349000 hb; replace HO_357000 := nr HO_357000 hb; replace HO_385000 := nr HO_385000 hb; replace BK326 := nb BK326 hb; replace BK341 := nb BK341 hb; replace BK348 := nb BK348 hb; replace BK356 := nb BK356 hb; replace BK384 := nb BK384 hb; replace HB := Aside0.mk (below_step (bs5 HB GE326 GE341 GE348 GE356 GE384) hb); (try clear hb); (try clear hb2); (try clear hk); (try clear hi)))
               go_ret
               exact ⟨by first | rfl | (simp [errW_none, errW_some] <;> rfl) | (simp [*, errW_none, errW_some] <;> rfl), bs5 HB GE326 GE341 GE348 GE356 GE384⟩
              ·
               rw [if_neg c149] at H
               have c149b0 : decide (t386 < 0) = false := decide_eq_false c149
               clear c149
               by_cases c156 : t386 = t368
               ·
                rw [if_pos c156] at H
                have c156b0 : (t386 == t368) = true := beq_iff_eq.mpr c156
                have c156b1 : (t386 != t368) = false := bne_eq_false_iff_eq.mpr c156
                clear c156
                obtain rfl := Option.some.inj H
                have hnb157 := NB356_326.out
                have hnc157 := NB326_356.out
                have hnb158 := NB356_341.out
                have hnc158 := NB341_356.out
                have hnb159 := NB356_348.out
                have hnc159 := NB348_356.out
                have hnb160 := NB356_384.out
                have hnc160 := NB384_356.out
                obtain ⟨hcz161_0, hcz161_1, hcz161_2, hcz161_3⟩ := cz4 BK356
                obtain ⟨hfz161_0, hfz161_1, hfz161_2, hfz161_3⟩ := fz4 BK356
                go_wp2_with (first | ((with_reducible refine gate_callee (f := 25) rfl ?_); refine gL (some 95) rfl rfl Tryd.func25 (by kernel_rfl) rfl #[.agg #[.slice Ao33 t369.length co33, .int .i64 t352, .int .i64 t353, .int .i64 t354], .int .i64 1] rfl ?_; (with_reducible refine (laws_heldRing.calls kj103 _ _ t369 t352 t353 t354 1 t386 _ ?side1 ?side2 A148.out).mono ?_); (case side1 => exact rc0 HO_357000); (case side2 => exact (Kd.R_reads' HO_357000.out).2.1); rintro e w162 ⟨rfl, hb⟩; refine ⟨_, rfl, ?_⟩; replace HO_342000 := nr HO_342000 hb; replace HO_349000 := nr HO_349000 hb; replace HO_357000 := nr HO_357000 hb; replace HO_385000 := nr HO_385000 hb; replace BK326 := nb BK326 hb; replace BK341 := nb BK341 hb; replace BK348 := nb BK348 hb; replace BK356 := nb BK356 hb; replace BK384 := nb BK384 hb; replace HB := Aside0.mk (below_step (bs5 HB GE326 GE341 GE348 GE356 GE384) hb); (try clear hb); (try clear hb2); (try clear hk); (try clear hi)))
                go_ret
                exact ⟨by first | rfl | (simp [errW_none, errW_some] <;> rfl) | (simp [*, errW_none, errW_some] <;> rfl), bs5 HB GE326 GE341 GE348 GE356 GE384⟩
               ·
                rw [if_neg c156] at H
                have c156b0 : (t386 == t368) = false := beq_eq_false_iff_ne.mpr c156
                have c156b1 : (t386 != t368) = true := bne_iff_ne.mpr c156
                obtain rfl := Option.some.inj H
                have hnb163 := NB356_326.out
                have hnc163 := NB326_356.out
                have hnb164 := NB356_341.out
                have hnc164 := NB341_356.out
                have hnb165 := NB356_348.out
                have hnc165 := NB348_356.out
                have hnb166 := NB356_384.out
                have hnc166 := NB384_356.out
                obtain ⟨hcz167_0, hcz167_1, hcz167_2, hcz167_3⟩ := cz4 BK356
                obtain ⟨hfz167_0, hfz167_1, hfz167_2, hfz167_3⟩ := fz4 BK356
                go_wp2_with (first | ((with_reducible refine gate_callee (f := 25) rfl ?_); refine gL (some 95) rfl rfl Tryd.func25 (by kernel_rfl) rfl #[.agg #[.slice Ao33 t369.length co33, .int .i64 t352, .int .i64 t353, .int .i64 t354], .int .i64 1] rfl ?_; (with_reducible refine (laws_heldRing.calls kj103 _ _ t369 t352 t353 t354 1 t386 _ ?side1 ?side2 A148.out).mono ?_); (case side1 => exact rc0 HO_357000); (case side2 => exact (Kd.R_reads' HO_357000.out).2.1); rintro e w168 ⟨rfl, hb⟩; refine ⟨_, rfl, ?_⟩; replace HO_342000 := nr HO_342000 hb; replace HO_349000 := nr HO_349000 hb; replace HO_357000 := nr HO_357000 hb; replace HO_385000 := nr HO_385000 hb; replace BK326 := nb BK326 hb; replace BK341 := nb BK341 hb; replace BK348 := nb BK348 hb; replace BK356 := nb BK356 hb; replace BK384 := nb BK384 hb; replace HB := Aside0.mk (below_step (bs5 HB GE326 GE341 GE348 GE356 GE384) hb); (try clear hb); (try clear hb2); (try clear hk); (try clear hi)))
                go_ret
                exact ⟨by first | rfl | (simp [errW_none, errW_some] <;> rfl) | (simp [*, errW_none, errW_some] <;> rfl), bs5 HB GE326 GE341 GE348 GE356 GE384⟩
          ·
           rw [if_neg c101] at H
           have c101b0 : (t370 == t368) = false := beq_eq_false_iff_ne.mpr c101
           have c101b1 : (t370 != t368) = true := bne_iff_ne.mpr c101
           obtain rfl := Option.some.inj H
           have hnb169 := NB356_326.out
           have hnc169 := NB326_356.out
           have hnb170 := NB356_341.out
           have hnc170 := NB341_356.out
           have hnb171 := NB356_348.out
           have hnc171 := NB348_356.out
           obtain ⟨hcz172_0, hcz172_1, hcz172_2, hcz172_3⟩ := cz4 BK356
           obtain ⟨hfz172_0, hfz172_1, hfz172_2, hfz172_3⟩ := fz4 BK356
           go_wp2_with (first | ((with_reducible refine gate_callee (f := 24) rfl ?_); refine gL (some 68) rfl rfl Tryd.func24 (by kernel_rfl) rfl #[.agg #[.slice Ao33 t349.length co33, .int .i64 t352, .int .i64 t353, .int .i64 t354], .int .i64 1] rfl ?_; (with_reducible refine (laws_markRing.calls kj60 (fun k_ => some k_ = (.slice Ao33 t349.length co33 : Value).ownBlock) (.slice Ao33 t349.length co33) t349 t352 t353 t354 1 t368 t369 w _ ?side1 ?side2 A91.out).mono ?_); (case side1 => repeat (first | (with_reducible first | exact HB.out | apply below_alloc | apply pw_below_drewN | apply below_drew1 | refine below_set ?_ GE326.out | refine below_set ?_ GE341.out | refine below_set ?_ GE348.out | refine below_set ?_ GE356.out) | exact HB.out)); (case side2 => exact Kd.R_tight rfl HO_357000.out); rintro e w173 ⟨rfl, hy0, hb, hkp⟩; refine ⟨_, rfl, ?_⟩; replace HO_342000 := Aside0.mk (Kd.R_mono (ok' := fun k_ => some k_ ≠ (.slice Ao27 t366.length co27 : Value).ownBlock ∧ some k_ ≠ (.slice Ao33 t349.length co33 : Value).ownBlock) (Kd.R_keptB (HO_342000.out) hkp (fun k_ hk_ hs_ => (hk_.2) hs_)) (fun k_ hk_ => ⟨hk_.1.1, hk_.1.2⟩)); replace HO_349000 := Aside0.mk (Kd.R_mono (ok' := fun k_ => some k_ ≠ (.slice Ao21 t334.length co21 : Value).ownBlock ∧ some k_ ≠ (.slice Ao33 t349.length co33 : Value).ownBlock) (Kd.R_keptB (HO_349000.out) hkp (fun k_ hk_ hs_ => (hk_.2) hs_)) (fun k_ hk_ => ⟨hk_.1.1, hk_.1.2⟩)); replace BK326 := Aside0.mk (blk_kept (bk BK326) hkp (fun hs_ => (fun e_ => (Kd.R_ne HO_357000.out BK326.out (by decide)) e_) hs_)); replace BK341 := Aside0.mk (blk_kept (bk BK341) hkp (fun hs_ => (fun e_ => (Kd.R_ne HO_357000.out BK341.out (by decide)) e_) hs_)); replace BK348 := Aside0.mk (blk_kept (bk BK348) hkp (fun hs_ => (fun e_ => (Kd.R_ne HO_357000.out BK348.out (by decide)) e_) hs_)); replace BK356 := Aside0.mk (blk_kept (bk BK356) hkp (fun hs_ => (fun e_ => (Kd.R_ne HO_357000.out BK356.out (by decide)) e_) hs_)); replace HO_357000 := Aside0.mk (Kd.R_reok rfl hy0 (fun k_ e_ => HO_357000.out.1 k_ e_)); replace HB := Aside0.mk (hb); (try clear hb); (try clear hkp); (try clear hy0); obtain ⟨hcz174_0, hcz174_1, hcz174_2, hcz174_3⟩ := cz4 BK356; obtain ⟨hfz174_0, hfz174_1, hfz174_2, hfz174_3⟩ := fz4 BK356) | ((with_reducible refine gate_callee (f := 25) rfl ?_); refine goesL_ (some 71) rfl rfl Tryd.func25 (by kernel_rfl) rfl #[.agg #[.slice Ao33 t369.length co33, .int .i64 t352, .int .i64 t353, .int .i64 t354], .int .i64 1] rfl (by (try simp only [List.map_toArray, List.map_cons, List.map_nil]); first | done | (rw [show t369.length = t349.length from (Kd.R_reads' HO_357000.out).1.symm] <;> rfl) | rfl | (simp only [List.length_drop, List.length_take]; rfl)) ?_; (with_reducible refine (laws_heldRing.calls kj60 _ _ t369 t352 t353 t354 1 t370 _ ?side1 ?side2 A92.out).mono ?_); (case side1 => exact rc0 HO_357000); (case side2 => rw [show t369.length = t349.length from (Kd.R_reads' HO_357000.out).1.symm]; exact (Kd.R_reads' HO_357000.out).2.1); rintro e w175 ⟨rfl, hb⟩; refine ⟨_, rfl, ?_⟩; replace HO_342000 := nr HO_342000 hb; replace HO_349000 := nr HO_349000 hb; replace HO_357000 := nr HO_357000 hb; replace BK326 := nb BK326 hb; replace BK341 := nb BK341 hb; replace BK348 := nb BK348 hb; replace BK356 := nb BK356 hb; replace HB := Aside0.mk (below_step (bs4 HB GE326 GE341 GE348 GE356) hb); (try clear hb); (try clear hb2); (try clear hk); (try clear hi)))
           go_ret
           exact ⟨by first | rfl | (simp [errW_none, errW_some] <;> rfl) | (simp [*, errW_none, errW_some] <;> rfl), bs4 HB GE326 GE341 GE348 GE356⟩
     ·
      replace c59 := Bool.eq_false_iff.mpr c59
      subst c59
      rw [if_neg (show ¬ (false = true) by decide)] at H
      obtain rfl := Option.some.inj H
      try go_wp2
      have n0_ := Aside0.mk (Kd.R_drew HO_342000.out)
      have n1_ := Aside0.mk (Kd.R_drew HO_349000.out)
      have n2_ := Aside0.mk (Kd.R_drew HO_357000.out)
      have n3_ := Aside0.mk (blk_drew BK326.out)
      have n4_ := Aside0.mk (blk_drew BK341.out)
      have n5_ := Aside0.mk (blk_drew BK348.out)
      have n6_ := Aside0.mk (blk_drew BK356.out)
      have n7_ := Aside0.mk (below_drew1 HB.out)
      clear HO_342000
      clear HO_349000
      clear HO_357000
      clear BK326
      clear BK341
      clear BK348
      clear BK356
      clear HB
      have HO_342000 := n0_
      have HO_349000 := n1_
      have HO_357000 := n2_
      have BK326 := n3_
      have BK341 := n4_
      have BK348 := n5_
      have BK356 := n6_
      have HB := n7_
      clear n0_ n1_ n2_ n3_ n4_ n5_ n6_ n7_
      refine start_ (n := 5) (S := fun w' => w'.cell? ⟨gb348, 0, none⟩ = some (.slice Ao27 t342.length co27) ∧ w'.cell? ⟨gb348, 1, none⟩ = some (.int .i64 t345) ∧ w'.cell? ⟨gb348, 2, none⟩ = some (.int .i64 t346) ∧ w'.cell? ⟨gb348, 3, none⟩ = some (.int .i64 t347) ∧ w'.cell? ⟨gb326, 0, none⟩ = some (.slice A0_0 l0_0.length c0_0) ∧ w'.cell? ⟨gb326, 1, none⟩ = some (.int .i64 a0_1) ∧ w'.cell? ⟨gb326, 2, none⟩ = some (.int .i64 a0_2) ∧ w'.cell? ⟨gb326, 3, none⟩ = some (.int .i64 a0_3)) (ds := []) #[false, false, false, false, false] (by kernel_rfl) rfl rfl ⟨(blk_cell BK348.out 0).trans rfl, (blk_cell BK348.out 1).trans rfl, (blk_cell BK348.out 2).trans rfl, (blk_cell BK348.out 3).trans rfl, (blk_cell BK326.out 0).trans rfl, (blk_cell BK326.out 1).trans rfl, (blk_cell BK326.out 2).trans rfl, (blk_cell BK326.out 3).trans rfl⟩ (fun hHeld => ?_)
      generalize wc.drew = w176 at HO_342000 HO_349000 HO_357000 BK326 BK341 BK348 BK356 HB hHeld ⊢
      refine take_ (i := 0) (N := some 45) (v := ?_) (a' := ?_) #[true, false, false, false, false] rfl rfl (by kernel_rfl) (fun _ _ _ h => h) (Or.inl ⟨by rfl, ?_⟩) hHeld ?_ ?_
      rotate_left
      ·
       rintro w' ⟨s0, s1, s2, s3, s4, s5, s6, s7⟩
       go_simp
       with_reducible rfl
      rotate_left
      ·
       simp only [Act.put, List.setIfInBounds_toArray, List.set_cons_zero, List.set_cons_succ, i64_w, i32_w]
       rfl
      refine take_ (i := 1) (N := some 46) (v := ?_) (a' := ?_) #[true, true, false, false, false] rfl rfl (by kernel_rfl) (fun _ _ _ h => h) (Or.inl ⟨by rfl, ?_⟩) hHeld ?_ ?_
      rotate_left
      ·
       rintro w' ⟨s0, s1, s2, s3, s4, s5, s6, s7⟩
       go_simp
       with_reducible rfl
      rotate_left
      ·
       simp only [Act.put, List.setIfInBounds_toArray, List.set_cons_zero, List.set_cons_succ, i64_w, i32_w]
       rfl
      refine one_ (i := 2) (N := some 47) #[true, true, true, false, false] rfl rfl (by kernel_rfl) (by decide) (fun K hK => ?_)
      refine goes_ Tryd.func19 (by kernel_rfl) rfl #[.agg #[.slice A0_0 l0_0.length c0_0, .int .i64 a0_1, .int .i64 a0_2, .int .i64 a0_3]] (by rfl) rfl rfl (by (try simp only [List.map_toArray, List.map_cons, List.map_nil]); first | done | rfl | (simp only [List.length_drop, List.length_take]; rfl)) ?_
      with_reducible refine (laws_toRing.calls kj11 _ _ l0_0 a0_1 a0_2 a0_3 t358 t361 t362 t363 _ ?side1 ?side2 A57.out).mono ?_
      (case side1 => exact cb HR0_0 HB)
      (case side2 => exact HC0_0.out)
      rintro e w177 ⟨v359, rfl, ho0, hb⟩
      refine ⟨_, rfl, ?_⟩
      have n0_ := Aside0.mk (Kd.R_elder' (rr HO_342000.out) (Kd.R_base ho0) hb)
      have n1_ := Aside0.mk (Kd.R_elder' (rr HO_349000.out) (Kd.R_base ho0) hb)
      have n2_ := Aside0.mk (Kd.R_elder' (rr HO_357000.out) (Kd.R_base ho0) hb)
      have n3_ := Aside0.mk (Kd.R_lower (Kd.R_new' (Kd.R_new' (Kd.R_new' ho0 (Kd.R_lt (rr HO_342000.out))) (Kd.R_lt (rr HO_349000.out))) (Kd.R_lt (rr HO_357000.out))) (below_size (bs4 HB GE326 GE341 GE348 GE356)))
      have n4_ := Aside0.mk (bb BK326 hb)
      have n5_ := Aside0.mk (bb BK341 hb)
      have n6_ := Aside0.mk (bb BK348 hb)
      have n7_ := Aside0.mk (bb BK356 hb)
      have n8_ := Aside0.mk (below_step (bs4 HB GE326 GE341 GE348 GE356) hb)
      clear HO_342000
      clear HO_349000
      clear HO_357000
      clear BK326
      clear BK341
      clear BK348
      clear BK356
      clear HB
      have HO_342000 := n0_
      have HO_349000 := n1_
      have HO_357000 := n2_
      have HO360 := n3_
      have BK326 := n4_
      have BK341 := n5_
      have BK348 := n6_
      have BK356 := n7_
      have HB := n8_
      clear n0_ n1_ n2_ n3_ n4_ n5_ n6_ n7_ n8_
      (try clear hb)
      (try clear hb2)
      (try clear hk)
      (try clear hi)
      (try clear ho0)
      obtain ⟨Ao178, co178, eo178⟩ := Kd.R_slice HO360.out
      (first | subst eo178 | (injection eo178 with f1_ f2_ f3_; have f4_ := f1_.symm; have f5_ := f3_.symm; clear f1_ f2_ f3_; subst f4_; subst f5_))
      refine hK.out _ _ ⟨(blk_cell BK348.out 0).trans rfl, (blk_cell BK348.out 1).trans rfl, (blk_cell BK348.out 2).trans rfl, (blk_cell BK348.out 3).trans rfl, (blk_cell BK326.out 0).trans rfl, (blk_cell BK326.out 1).trans rfl, (blk_cell BK326.out 2).trans rfl, (blk_cell BK326.out 3).trans rfl⟩ (fun hHeld => ?_)
      clear hK K
      refine norm_ (a' := ?_) ?_ ?_
      rotate_left
      ·
       show Act.put _ (some 47) _ = _
       simp only [Act.put, List.setIfInBounds_toArray, List.set_cons_zero, List.set_cons_succ, i64_w, i32_w]
       rfl
      refine one_ (i := 3) (N := some 48) #[true, true, true, true, false] rfl rfl (by kernel_rfl) (by decide) (fun K hK => ?_)
      refine goes_ Tryd.func21 (by kernel_rfl) rfl #[.agg #[.slice Ao27 t342.length co27, .int .i64 t345, .int .i64 t346, .int .i64 t347], .agg #[.slice Ao178 t358.length co178, .int .i64 t361, .int .i64 t362, .int .i64 t363]] (by rfl) rfl rfl (by (try simp only [List.map_toArray, List.map_cons, List.map_nil]); first | done | rfl | (simp only [List.length_drop, List.length_take]; rfl)) ?_
      with_reducible refine (laws_eqRing.calls kj11 _ _ t342 t345 t346 t347 _ _ t358 t361 t362 t363 false _ ?side1 ?side2 ?side3 ?side4 A58.out).mono ?_
      (case side1 => exact rc0 HO_349000)
      (case side2 => exact (Kd.R_reads' HO_349000.out).2.1)
      (case side3 => exact rc0 HO360)
      (case side4 => exact (Kd.R_reads' HO360.out).2.1)
      rintro e w179 ⟨rfl, hb⟩
      refine ⟨_, rfl, ?_⟩
      have n0_ := Aside0.mk (Kd.R_below (rr HO_342000.out) hb)
      have n1_ := Aside0.mk (Kd.R_below (rr HO_349000.out) hb)
      have n2_ := Aside0.mk (Kd.R_below (rr HO_357000.out) hb)
      have n3_ := Aside0.mk (Kd.R_below (rr HO360.out) hb)
      have n4_ := Aside0.mk (bb BK326 hb)
      have n5_ := Aside0.mk (bb BK341 hb)
      have n6_ := Aside0.mk (bb BK348 hb)
      have n7_ := Aside0.mk (bb BK356 hb)
      have n8_ := Aside0.mk (below_step (bs4 HB GE326 GE341 GE348 GE356) hb)
      clear HO_342000
      clear HO_349000
      clear HO_357000
      clear HO360
      clear BK326
      clear BK341
      clear BK348
      clear BK356
      clear HB
      have HO_342000 := n0_
      have HO_349000 := n1_
      have HO_357000 := n2_
      have HO360 := n3_
      have BK326 := n4_
      have BK341 := n5_
      have BK348 := n6_
      have BK356 := n7_
      have HB := n8_
      clear n0_ n1_ n2_ n3_ n4_ n5_ n6_ n7_ n8_
      (try clear hb)
      (try clear hb2)
      (try clear hk)
      (try clear hi)
      refine hK.out _ _ ⟨(blk_cell BK348.out 0).trans rfl, (blk_cell BK348.out 1).trans rfl, (blk_cell BK348.out 2).trans rfl, (blk_cell BK348.out 3).trans rfl, (blk_cell BK326.out 0).trans rfl, (blk_cell BK326.out 1).trans rfl, (blk_cell BK326.out 2).trans rfl, (blk_cell BK326.out 3).trans rfl⟩ (fun hHeld => ?_)
      clear hK K
      refine norm_ (a' := ?_) ?_ ?_
      rotate_left
      ·
       show Act.put _ (some 48) _ = _
       simp only [Act.put, List.setIfInBounds_toArray, List.set_cons_zero, List.set_cons_succ, i64_w, i32_w]
       rfl
      refine pure_ (i := 4) (N := some 49) (v := ?_) (a' := ?_) #[true, true, true, true, true] rfl rfl (by kernel_rfl) (fun _ _ _ h => h) (Or.inl ⟨by rfl, ?_⟩) ?_ ?_
      rotate_left
      ·
       intro w'
       go_simp
       with_reducible rfl
      rotate_left
      ·
       simp only [Act.put, List.setIfInBounds_toArray, List.set_cons_zero, List.set_cons_succ, i64_w, i32_w]
       rfl
      refine done_ (by kernel_rfl) ?_
      try go_wp2
      go_ret
      exact ⟨by first | rfl | (simp [errW_none, errW_some] <;> rfl) | (simp [*, errW_none, errW_some] <;> rfl), bs4 HB GE326 GE341 GE348 GE356⟩

/-- THE ONE PURE STATEMENT of laws_FnExactPushTail. -/
def laws_FnExactPushTail.Pure : Prop := ∀ (l0_0 : List (S23)) (a0_1 : Int) (a0_2 : Int) (a0_3 : Int) (a1 : Int), ok31 (⟨l0_0, a0_1, a0_2, a0_3⟩ : S31) → (Lit.int .i64 a1).wf = true → ∃ k, laws_FnExactPushTail.f k l0_0 a0_1 a0_2 a0_3 a1 = some true

end Go.Proofs.YthlifcbkpafofaaDoor.G
